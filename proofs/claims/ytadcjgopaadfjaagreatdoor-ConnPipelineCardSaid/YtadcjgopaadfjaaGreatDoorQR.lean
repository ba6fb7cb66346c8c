import Derived.Test.YtadcjgopaadfjaaGreatDoorQI
import Derived.Test.YtadcjgopaadfjaaGreatDoorQO
import Derived.Maps.OwnSet
import Derived.StringKeys
import Derived.Sort.OwnSorted
import Derived.Carry
import Derived.Laws.Cover3
import Derived.Lib.SliceRun
set_option maxHeartbeats 8000000
set_option maxRecDepth 100000
namespace Go.Proofs.YtadcjgopaadfjaaGreatDoor
open Go.RowKit Go.Proofs Go.Maps
def RR(v:Value):Option (DataW Value × List MemPlace):=some (.held v,[])
def lQ:Value:=.slice none 0 0
def dj(w:World)(b n:Nat)(f:ah→Value):Prop:=
 ∃ D:DataW Value,w.ownsMap Tryz.prog 9 RR b n D∧∀ s:ah,D.atKey (.string s) (.held lQ)=.held (f s)
theorem Ga:Keyed Tryz.prog 9:=string_keyed Tryz.underlying9
theorem vz(w:World):(zeroValue 161).run Tryz.prog w=.ok lQ w:=by kernel_rfl
section
variable {S:Nat→Prop} {w w':World} {b n:Nat} {f:ah→Value}
theorem dj.made(w:World):dj (w.alloc (.map #[] 0)) w.heap.size 0 (fun _=>lQ):=⟨.map [],World.ownsMap_made w _ _ _,fun _=>rfl⟩
theorem dj.sm(h:dj w b n f)(hs:Sm S w w')(hb:¬S b):dj w' b n f:=by
 obtain⟨D,h1,h2⟩:=h;exact⟨D,vG h1 hs hb,h2⟩
theorem dj.mono(h:dj w b n f){m:Nat}(hm:n≤m):dj w b m f:=by
 obtain⟨D,h1,h2⟩:=h;exact⟨D,h1.mono hm,h2⟩
theorem dj.lt(h:dj w b n f):b < w.heap.size:=by
 obtain⟨D,h1,_⟩:=h;exact h1.lt
theorem dj.isMap(h:dj w b n f):∃ es clock,w.heap[b]?=some (.map es clock):=by
 obtain⟨D,⟨es,clock,h1,_⟩,_⟩:=h;exact⟨es,clock,h1⟩
theorem dj.look(h:dj w b n f)(s:ByteArray)(hs:s.size≤1000000):
 (Instr.lookup 156 (.map (some b)) (.string s) false).run Tryz.prog w=.ok (f (af s)) w:=by
 obtain⟨D,h1,h2⟩:=h;obtain⟨v,ps,hrun,hv⟩:=h1.lookup Ga Tryz.underlying156 (vz w) (zd:=.held lQ) (zp:=[]) rfl (WideMaps.keyOf_string_mk Tryz.underlying9 (s:=s) (by unfold maxLen;omega));rw [h2] at hv;unfold RR at hv;injection hv with hv;have e:=(Prod.mk.inj hv).1;injection e with e;subst e;exact hrun
theorem dj.put(h:dj w b n f)(hn:n≤1000000)(s:ByteArray)(hs:s.size≤1000000)(v:Value):
 ∃ w',(Instr.mapUpdate 156 (.map (some b)) (.string s) v).run Tryz.prog w=.ok () w'∧dj w' b (n+1) (fun q=>if q=af s then v else f q)∧Sm (fun g=>g=b) w w':=by
 obtain⟨D,h1,h2⟩:=h;obtain⟨w',hrun,ho,hg⟩:=h1.update Ga Tryz.underlying156 (by unfold maxLen;omega) (val:=v) (d:=.held v) (ps:=[]) (WideMaps.keyOf_string_mk Tryz.underlying9 (s:=s) (by unfold maxLen;omega)) rfl;refine⟨w',hrun,⟨_,ho,fun q=> ?_⟩,(Sm.refl _ w).grown hg (fun k hk=>Or.inl (by injection hk with hk;exact hk.symm))⟩;obtain⟨es,clock,_,_,_,hD⟩:=h1;have hmap:IsMap D:=⟨_,hD⟩;by_cases e:q=af s
 ·subst e;show _=DataW.held (if af s=af s then v else f (af s));rw [if_pos rfl];exact atKey_put_same hmap (by simp [WideAt.IsKeyLit]) _ _
 ·show _=DataW.held (if q=af s then v else f q);rw [if_neg e,atKey_put_other (fun e'=>e (by injection e'))];exact h2 q
end
theorem fY{B size n:Nat}{t:TypeId}{w:World}{v:Value}{xs:List Value}(h:w.ownsRow B t size v n xs){g:Nat}(hg:v.ownBlock=some g):g < w.heap.size:=by
 rcases aK h with ⟨rfl,_,_⟩|⟨g',cap,rfl,hg',_,hb,_⟩
 ·cases hg
 ·rw [hg'] at hg;injection hg with hg;omega
theorem az{B size n:Nat}{t:TypeId}{w:World}{v:Value}{xs:List Value}(h:w.ownsRow B t size v n xs){g:Nat}(hg:v.ownBlock=some g):∃ cur,w.heap[g]?=some (.cells cur t (0,0)):=by
 rcases h.2 with ⟨rfl,_⟩|⟨g',cap,cur,rfl,_,hh,_⟩
 ·cases hg
 ·have:g'=g:=by simpa [Value.ownBlock] using hg
  subst this;exact⟨cur,hh⟩
def ga(l:List (Lt × Value)):List Value:=l.flatMap fun x=>[.int .i64 x.1.id,x.2]
theorem zF{l:List (Lt × Value)}{k:Nat}(h:k < l.length):(ga l)[k * 2]?=some (.int .i64 l[k].1.id)∧(ga l)[k * 2+1]?=some l[k].2:=by
 induction l generalizing k with
 |nil=>simp at h
 |cons x l ih=>
  cases k with
  |zero=>exact⟨rfl,rfl⟩
  |succ k=>
   have hk:k < l.length:=by simpa using h
   obtain⟨h1,h2⟩:=ih hk;have e1:(k+1) * 2=k * 2+2:=by omega
   rw [e1];exact⟨h1,h2⟩
structure ES (w:World) (O:Nat→Prop) (f:Bool→ah→Value) (l:Bool→ah→List (Lt × Value)):Prop where
 own:∀ d q,w.ownsRow 0 163 2 (f d q) (l d q).length (ga (l d q))
 nil:∀ d q,l d q=[]→f d q=lQ
 ms:∀ d q,∀ x∈l d q,bi w 0 x.2 x.1.ms
 apart:∀ d q d' q',(d,q)≠(d',q')→(f d q).ownBlock=none∨(f d q).ownBlock≠(f d' q').ownBlock
 inO:∀ d q g,(f d q).ownBlock=some g→O g
 inM:∀ d q,∀ x∈l d q,∀ g,x.2.ownBlock=some g→O g
def aT(w:World)(O:Nat→Prop)(r:Nat)(L:List Lt):Prop:=
 ∃ ba bu f l,Bk w r 158 #[.map (some ba),.map (some bu),.int .i64 L.length]∧dj w ba L.length (f false)∧dj w bu L.length (f true)∧ES w O f l∧(∀ d q,(l d q).map Prod.fst=gF L (d,q))∧
   O r∧O ba∧O bu∧ba≠bu∧∀ b,O b→b < w.heap.size
theorem ES.sm{S O:Nat→Prop}{w w':World}{f:Bool→ah→Value}{l:Bool→ah→List (Lt × Value)}(h:ES w O f l)(hs:Sm S w w')(hS:∀ b,O b→¬S b):ES w' O f l where
 own:=fun d q=>ae (h.own d q) hs (fun g hg=>hS g (h.inO d q g hg))
 nil:=h.nil
 ms:=fun d q x hx=>ae (h.ms d q x hx) hs (fun g h2=>hS g (h.inM d q x hx g h2))
 apart:=h.apart
 inO:=h.inO
 inM:=h.inM
theorem ES.mono{O O':Nat→Prop}{w:World}{f:Bool→ah→Value}{l:Bool→ah→List (Lt × Value)}(h:ES w O f l)(hO:∀ b,O b→O' b):ES w O' f l:=
 ⟨h.own,h.nil,h.ms,h.apart,fun d q g hg=>hO g (h.inO d q g hg),fun d q x hx g h2=>hO g (h.inM d q x hx g h2)⟩
theorem aT.sm{S O:Nat→Prop}{w w':World}{r:Nat}{L:List Lt}(h:aT w O r L)(hs:Sm S w w')(hS:∀ b,O b→¬S b):aT w' O r L:=by
 obtain⟨ba,bu,f,l,h1,h2,h3,h4,h5,h6,h7,h8,h9,h10⟩:=h;exact⟨ba,bu,f,l,h1.sm hs (hS r h6),h2.sm hs (hS ba h7),h3.sm hs (hS bu h8),h4.sm hs hS,h5,h6,h7,h8,h9,fun b hb=>Nat.lt_of_lt_of_le (h10 b hb) hs.size⟩
theorem aT.no{O:Nat→Prop}{w w':World}{r:Nat}{L:List Lt}(h:aT w O r L)(hs:Sm No w w'):aT w' O r L:=h.sm hs (fun _ _ h=>h)
end Go.Proofs.YtadcjgopaadfjaaGreatDoor
namespace Go.Proofs.YtadcjgopaadfjaaGreatDoor
open Go.RowKit Go.Proofs
theorem ax.at{w:World}{A:Option Addr}{cs:List Value}(h:ax w A cs){j:Nat}{u:Value}(hj:cs[j]?=some u):∃ bb off,A=some ⟨bb,off,none⟩∧bb < w.heap.size∧w.cell? ⟨bb,off+j,none⟩=some u:=h j u hj
theorem df{l:List ah}{k:Nat}(h:k < l.length):(l.map aP)[k]?=some (.string ⟨l[k].toArray⟩):=by simp [h,aP]
theorem eA(l:ah):af ⟨l.toArray⟩=l:=by simp [af]
theorem fr(s:ByteArray):(⟨(af s).toArray⟩:ByteArray)=s:=by cases s;simp [af]
theorem qK(w:World)(A:Option Addr)(c:Nat)(l:List ah)(x:ByteArray)(h:ax w A (l.map aP))(hl:l.length≤1000000):
 Calls Tryz.prog 87 #[.slice A l.length c,.string x] w fun e w'=>e=.returned (.bool (l.contains (af x)))∧w'=w:=by
 by_cases h0:l=[]
 ·subst h0;exact Tryz.slices_Contains_string_empty A c x w
 ·have hp:0 < l.length:=List.length_pos_iff.2 h0;obtain⟨bb,off,hA,_,_⟩:=h.at (df hp);subst hA;have:=Tryz.slices_Contains_string bb off l.length c (l.map fun t=>(⟨t.toArray⟩:ByteArray)) x w (by simp) (by omega) (fun j hj=>by
   rw [List.length_map] at hj;obtain⟨b',o',hA',_,hc⟩:=h.at (df hj);injection hA' with hA';injection hA' with e1 e2;subst e1 e2;rw [hc];simp [List.getD,hj])
  refine this.mono fun e w' ⟨he,hw⟩=>⟨?_,hw⟩;rw [he];refine gi ?_;rw [List.take_of_length_le (by simp),Bool.eq_iff_iff,Lib.containsS_iff,List.contains_iff_mem,List.mem_map];constructor
  ·rintro⟨t,ht,rfl⟩;rw [eA];exact ht
  ·intro ht;exact⟨_,ht,fr x⟩
theorem dY{l:List ah}{x:ByteArray}{r:Bool}(hr:Hid (l.contains (af x)=r))(w:World)(A:Option Addr)(c:Nat)(h:ax w A (l.map aP))(hl:l.length≤1000000):
 Calls Tryz.prog 87 #[.slice A l.length c,.string x] w fun e w'=>e=.returned (.bool r)∧w'=w:=by rw [←hr.out];exact qK w A c l x h hl
theorem uh(w:World)(A:Option Addr)(c:Nat)(l:List ah)(h:ax w A (l.map aP))(hl:l.length≤1000000)(h0:A=none→c=0):
 Calls Tryz.prog 88 #[.slice A l.length c] w fun e w'=>∃ v',e=.returned v'∧bi w' w.heap.size v' l∧Sm No w w':=by
 cases A with
 |none=>
  have hn:l=[]:=by
   rcases List.eq_nil_or_concat l with e|⟨a,b,e⟩
   ·exact e
   ·have hp:0 < l.length:=by rw [e];simp
    obtain⟨bb,off,hA,_⟩:=h.at (df hp)
    cases hA
  subst hn;exact(Tryz.slices_Clone_string_nil 0 c w).mono fun e w' ⟨he,hw⟩=>⟨_,he,World.ownsRow_nil _ _ _ 1,hw ▸ Sm.refl _ _⟩
 |some a=>
  by_cases hn:l=[]
  ·subst hn;exact(Tryz.slices_Clone_string_zero a c w).mono fun e w' ⟨v',he,hO,_,hb⟩=>⟨v',he,hO,Sm.of_below hb No⟩
  ·have hp:0 < l.length:=List.length_pos_iff.2 hn;obtain⟨bb,off,hA,_,_⟩:=h.at (df hp);injection hA with hA;subst hA;refine(Tryz.slices_Clone_string bb off l.length c (l.map fun t=>(⟨t.toArray⟩:ByteArray)) w (by simp) (by omega) (fun j hj=>by
    rw [List.length_map] at hj;obtain⟨b',o',hA',_,hc⟩:=h.at (df hj);injection hA' with hA';injection hA' with e1 e2;subst e1 e2;rw [hc];simp [List.getD,hj])).mono fun e w' ⟨v',he,hO,_,hb⟩=>⟨v',he,?_,Sm.of_below hb No⟩
   rw [List.take_of_length_le (by simp),List.map_map] at hO;exact hO
theorem BY(s:ByteArray)(hs:s.size≤1000000)(w:World):
 Calls Tryz.prog 82 #[.string s,.string ⟨#[47,42]⟩] w fun e w'=>e=.returned (.tuple #[.string (if bG (af s)=true then ⟨((af s).take (s.size-2)).toArray⟩ else s),.bool (bG (af s))])∧w'=w:=by
 refine(Tryz.strings_CutSuffix s ⟨#[47,42]⟩ w (by omega)).mono fun e w' ⟨he,hw⟩=>⟨?_,hw⟩;rw [he];have hh:Lib.hasSuffix s.data.toList [47,42]=bG (af s):=by
  rw [Bool.eq_iff_iff,gv];unfold Lib.hasSuffix;rw [List.isSuffixOf_iff_suffix];exact⟨fun ⟨q,hq⟩=>⟨q,hq.symm⟩,fun ⟨q,hq⟩=>⟨q,hq.symm⟩⟩
 have ht:(⟨(Lib.trimSuffix s.data.toList [47,42]).toArray⟩:ByteArray)=if bG (af s)=true then ⟨((af s).take (s.size-2)).toArray⟩ else s:=by
  unfold Lib.trimSuffix;rw [hh];split
  ·rw [←ag];rfl
  ·exact fr s
 rw [show (⟨#[47,42]⟩:ByteArray).data.toList=[47,42] from rfl,ht,hh]
theorem kN(w:World)(B:Nat)(v:Value)(l:List ah)(h:bi w B v l)(hl:l.length≤1000000):
 Calls Tryz.prog 160 #[v] w fun e w'=>e=.returned (.tuple #[])∧bi w' B v (dF l)∧Sm (fun b=>v.ownBlock=some b) w w':=by
 by_cases hn:l=[]
 ·subst hn;rcases aK h with ⟨rfl,_,_⟩|⟨g,cap,rfl,_⟩
  ·exact(Tryz.slices_Sort_string_none none 0 w).mono fun e w' ⟨he,hw⟩=>⟨he,by rw [hw];simpa [dF] using h,hw ▸ Sm.refl _ _⟩
  ·exact(Tryz.slices_Sort_string_none _ cap w).mono fun e w' ⟨he,hw⟩=>⟨he,by rw [hw];simpa [dF] using h,hw ▸ Sm.refl _ _⟩
 ·have h0:=h;rcases h0.2 with ⟨_,h1⟩|⟨g,cap,cur,rfl,hg,hh,hnc,hcm,hcs,ht⟩
  ·exact absurd (List.eq_nil_of_length_eq_zero h1) hn
  ·have hlen:(dF l).length=l.length:=by simp [dF]
   refine(Tryz.slices_Sort_string g 0 cap l w (holds_of_block hh (by rw [Nat.mul_one] at ht;exact ht)) (Array.getElem?_eq_some_iff.1 hh).1 (by omega)).mono fun e w' ⟨he,n,os,hw⟩=>⟨he,?_,?_⟩
   ·rw [hw];have:=ownsRow_sorted (os:=os) (n:=n) hlen hg hh hnc hcm hcs;unfold bi;rw [hlen];exact this
   ·rw [hw];exact(Sm.refl _ w).grown (grownBy_sorted _) (fun k hk=>Or.inl hk)
theorem rC(l:List ah):(Lib.compact l).length≤l.length:=by
 unfold Lib.compact Lib.compactUpTo;rw [List.length_map];refine Nat.le_trans (List.length_filter_le _ _) ?_;simp
theorem fO(w:World)(B:Nat)(v:Value)(l:List ah)(h:bi w B v l)(hl:l.length≤1000000):
 Calls Tryz.prog 161 #[v] w fun e w'=>∃ v',e=.returned v'∧bi w' B v' (Lib.compact l)∧Sm (fun b=>v.ownBlock=some b) w w':=by
 by_cases hn:l=[]
 ·subst hn;rcases aK h with ⟨rfl,_,_⟩|⟨g,cap,rfl,_⟩
  ·exact(Tryz.slices_Compact_string_empty none 0 w).mono fun e w' ⟨he,hw⟩=>⟨_,he,by rw [hw];exact h,hw ▸ Sm.refl _ _⟩
  ·exact(Tryz.slices_Compact_string_empty _ cap w).mono fun e w' ⟨he,hw⟩=>⟨_,he,by rw [hw];exact h,hw ▸ Sm.refl _ _⟩
 ·have h0:=h;rcases h0.2 with ⟨_,h1⟩|⟨g,cap,cur,rfl,hg,hh,hnc,hcm,hcs,ht⟩
  ·exact absurd (List.eq_nil_of_length_eq_zero h1) hn
  ·have hcl:=rC l;refine(Tryz.slices_Compact_string g 0 cap l w (holds_of_block hh (by rw [Nat.mul_one] at ht;exact ht)) (by omega) hnc).mono fun e w' ⟨he,n,hw⟩=>⟨_,he,?_,?_⟩
   ·have hlen:(Lib.compact l++List.replicate (l.length-(Lib.compact l).length) ([]:ah)).length=l.length:=by simp;omega
    have h2:=ownsRow_sorted (os:=#[]) (n:=n) hlen hg hh hnc hcm hcs;have e0:Sort.grow (Sort.putRow encStr (Sort.ahead w n) g 0 (Lib.compact l++List.replicate (l.length-(Lib.compact l).length) ([]:ah)).toArray) #[]=w':=by rw [hw];exact Sort.grow_empty _
    rw [e0] at h2;rcases h2.2 with ⟨e1,_⟩|⟨g',cap',cur',e1,hg',hh',hnc',hcm',hcs',ht'⟩
    ·cases e1
    ·injection e1 with e1 e2 e3;injection e1 with e1;injection e1 with e1;subst e1 e3;refine⟨by simp,Or.inr ⟨g,cap,cur',rfl,hg',hh',by omega,hcm',hcs',?_⟩⟩;rw [Nat.mul_one] at ht' ⊢;have:(cur'.toList.take l.length).take (Lib.compact l).length=cur'.toList.take (Lib.compact l).length:=by rw [List.take_take,Nat.min_eq_left hcl]
     rw [←this,ht',List.map_append];exact List.take_left' (by simp)
   ·have:=(Sm.refl (fun b=>(Value.slice (some ⟨g,0,none⟩) l.length cap).ownBlock=some b) w).grown (grownBy_sorted (n:=n) (os:=#[]) (g:=g) (Lib.compact l++List.replicate (l.length-(Lib.compact l).length) ([]:ah)).toArray) (fun k hk=>Or.inl hk);rw [hw];rw [Sort.grow_empty] at this;exact this
theorem Bw(s:ByteArray)(hs:s.size≤1000000)(w:World):
 Calls Tryz.prog 84 #[.string s] w fun e w'=>e=.returned (.bool (!bo (af s)))∧Sm No w w':=by
 obtain⟨f,hf⟩:=ai (bo (af s));rw [hf];have HF:=aa hf;clear hf;go_in;go_wp2_with fail;refine(cU HF hs _).mono ?_;rintro e w' ⟨rfl,rfl⟩;go_wp2_with fail;go_ret;exact⟨rfl,Sm.refl _ _⟩
def uu(w:World)(g:Nat)(x:Lt):Prop:=∃ A c,Bk w g 163 #[.int .i64 x.id,.slice A x.ms.length c]∧ax w A (x.ms.map aP)∧x.ms.length≤1000000
theorem uu.no{w w':World}{g:Nat}{x:Lt}(h:uu w g x)(hs:Sm No w w'):uu w' g x:=by
 obtain⟨A,c,h1,h2,h3⟩:=h;exact⟨A,c,h1.sm hs (fun h=>h),h2.no hs,h3⟩
theorem BV(s:ByteArray)(w:World)(g:Nat)(x:Lt)(hx:uu w g x):
 Calls Tryz.prog 86 #[.string s,.pointer (some ⟨g,0,none⟩)] w fun e w'=>e=.returned (.bool (x.ms.contains (af s)))∧Sm No w w':=by
 obtain⟨A,c,hb,hR,hl⟩:=hx;have c1:=hb.at 1 (v:=.slice A x.ms.length c) rfl;obtain⟨r,hr⟩:=ai (x.ms.contains (af s));rw [hr];have HC:=aa hr;have HR:=aa (ab hR hb);clear hR hb hr;go_in;go_wp2_with fail;refine(dY HC _ A c HR.out.1 hl).mono ?_;rintro e w' ⟨rfl,rfl⟩;go_wp2_with fail;go_ret;exact⟨rfl,Sm.refl _ _⟩
def Fs(w:World)(l:List ah)(p:ah→Bool)(i:Value)(wr:World):Prop:=
 ∃ k:Nat,k≤l.length∧i=.int .i64 k∧Sm No w wr∧∀ x∈l.take k,p x=false
theorem ny{l:List ah}{p:ah→Bool}{k:Nat}(h:∀ x∈l.take k,p x=false)(hk:¬k < l.length):l.any p=false:=by
 rw [List.any_eq_false];intro x hx;rw [List.take_of_length_le (by omega)] at h;simpa using h x hx
theorem iX{l:List ah}{p:ah→Bool}{k:Nat}(h:∀ x∈l.take k,p x=false)(hk:k < l.length)(hp:p l[k]=false):∀ x∈l.take (k+1),p x=false:=by
 intro x hx;rw [List.take_succ_eq_append_getElem hk,List.mem_append,List.mem_singleton] at hx;rcases hx with hx|rfl
 ·exact h x hx
 ·exact hp
theorem BM(w:World)(A:Option Addr)(c:Nat)(l:List ah)(hA:ax w A (l.map aP))(hl:l.length≤1000000)(hs:∀ t∈l,t.length≤1000000):
 Calls Tryz.prog 119 #[.slice A l.length c,.func (.func 84) #[] #[]] w
  fun e w'=>∃ r:Int,e=.returned (.int .i64 r)∧(decide (0≤r)=l.any (fun m=> !bo m))∧Sm No w w':=by
 obtain⟨p,hp⟩:∃ p:ah→Bool,(fun m=> !bo m)=p:=⟨_,rfl⟩;rw [hp];have HQ:=aa hp;have HA:=aa (ab hA (ab hs True.intro));clear hA hs hp;go_in;go_wp2_with fail
 go_loopw [8] (fun i wr=>Fs w l p i wr) (fun i _=>l.length-(intOf i).toNat)
 case atStart=>exact⟨0,Nat.zero_le _,rfl,Sm.refl _ _,fun x h=>by simp at h⟩
 case round=>
  obtain⟨k,hk,rfl,hsm,hno⟩:=hrel;have HS:=aa (ab hsm hno);clear hsm hno;by_cases hlt:k < l.length
  ·obtain⟨bb,off,hAe,hbb,r0⟩:=(HA.out.1.no HS.out.1).at (df hlt);subst hAe;have s0:=HA.out.2.1 _ (List.getElem_mem hlt);obtain⟨s,hsk⟩:=ai ((⟨l[k].toArray⟩:ByteArray));have hts:af s=l[k]:=by rw [←hsk,eA]
   rw [hsk] at r0;have hsz:s.size≤1000000:=by rw [←ag,hts];exact s0
   have k1:(0:Int)≤(k:Int):=by omega
   have k2:(k:Int) < (l.length:Int):=by omega
   obtain⟨f,hf⟩:=ai (p l[k]);have HD:=Bw s hsz wr;rw [hts] at HD;have hpk:(fun m=> !bo m) l[k]=p l[k]:=by rw [HQ.out]
   dsimp only at hpk;rw [hpk,hf] at HD;have HF:=aa (ab hf HD);clear hf hsk hts HD s0 hpk;go_wp2_with fail;refine HF.out.2.mono ?_;rintro e w1 ⟨rfl,hs1⟩;have H1:=aa (HS.out.1.tt hs1);clear hs1
   cases f
   ·have hno:=iX HS.out.2 hlt HF.out.1;have HN:=aa hno;clear hno;go_wp2_with fail;exact⟨⟨k+1,by omega,by go_num,H1.out,HN.out⟩,by simp [intOf];omega⟩
   ·have hyes:l.any p=true:=List.any_eq_true.2 ⟨l[k],List.getElem_mem hlt,HF.out.1⟩;have HN:=aa hyes;clear hyes;go_wp2_with fail;go_ret;exact⟨k,rfl,by rw [HN.out];simp,H1.out⟩
  ·have hno:=ny HS.out.2 hlt;have HN:=aa hno;clear hno;go_wp2_with fail;go_ret;exact⟨-1,rfl,by rw [HN.out];rfl,HS.out.1⟩
theorem CL(w:World)(A:Option Addr)(c:Nat)(l:List ah)(hA:ax w A (l.map aP))(hl:l.length≤1000000)(hs:∀ t∈l,t.length≤1000000):
 Calls Tryz.prog 83 #[.slice A l.length c,.func (.func 84) #[] #[]] w
  fun e w'=>e=.returned (.bool (l.any (fun m=> !bo m)))∧Sm No w w':=by
 have HI0:=BM w A c l hA hl hs;obtain⟨p,hp⟩:∃ p:ah→Bool,(fun m=> !bo m)=p:=⟨_,rfl⟩;rw [hp] at HI0 ⊢;have HI:=aa HI0;clear hA hs hp HI0;go_in;go_wp2_with fail;refine HI.out.mono ?_;rintro e w1 ⟨r,rfl,hr,hs1⟩;have HR:=aa (ab hr hs1);clear hr hs1;go_wp2_with fail
 all_goals
  go_ret;exact⟨gi (by rw [←HR.out.1]),HR.out.2⟩
theorem CG(w:World)(A:Option Addr)(c:Nat)(l:List ah)(g:Nat)(x:Lt)(hx:uu w g x)(hA:ax w A (l.map aP))(hl:l.length≤1000000)(hs:∀ t∈l,t.length≤1000000):
 Calls Tryz.prog 119 #[.slice A l.length c,.func (.func 86) #[] #[.pointer (some ⟨g,0,none⟩)]] w
  fun e w'=>∃ r:Int,e=.returned (.int .i64 r)∧(decide (0≤r)=l.any (fun m=>x.ms.contains m))∧Sm No w w':=by
 obtain⟨p,hp⟩:∃ p:ah→Bool,(fun m=>x.ms.contains m)=p:=⟨_,rfl⟩;rw [hp];have HQ:=aa hp;have HA:=aa (ab hA (ab hs hx));clear hA hs hp hx;go_in;go_wp2_with fail
 go_loopw [8] (fun i wr=>Fs w l p i wr) (fun i _=>l.length-(intOf i).toNat)
 case atStart=>exact⟨0,Nat.zero_le _,rfl,Sm.refl _ _,fun x h=>by simp at h⟩
 case round=>
  obtain⟨k,hk,rfl,hsm,hno⟩:=hrel;have HS:=aa (ab hsm hno);clear hsm hno;by_cases hlt:k < l.length
  ·obtain⟨bb,off,hAe,hbb,r0⟩:=(HA.out.1.no HS.out.1).at (df hlt);subst hAe;have s0:=HA.out.2.1 _ (List.getElem_mem hlt);obtain⟨s,hsk⟩:=ai ((⟨l[k].toArray⟩:ByteArray));have hts:af s=l[k]:=by rw [←hsk,eA]
   rw [hsk] at r0;have hsz:s.size≤1000000:=by rw [←ag,hts];exact s0
   have k1:(0:Int)≤(k:Int):=by omega
   have k2:(k:Int) < (l.length:Int):=by omega
   obtain⟨f,hf⟩:=ai (p l[k]);have HD:=BV s wr g x (HA.out.2.2.no HS.out.1);rw [hts] at HD;have hpk:(fun m=>x.ms.contains m) l[k]=p l[k]:=by rw [HQ.out]
   dsimp only at hpk;rw [hpk,hf] at HD;have HF:=aa (ab hf HD);clear hf hsk hts HD s0 hpk;go_wp2_with fail;refine HF.out.2.mono ?_;rintro e w1 ⟨rfl,hs1⟩;have H1:=aa (HS.out.1.tt hs1);clear hs1
   cases f
   ·have hno:=iX HS.out.2 hlt HF.out.1;have HN:=aa hno;clear hno;go_wp2_with fail;exact⟨⟨k+1,by omega,by go_num,H1.out,HN.out⟩,by simp [intOf];omega⟩
   ·have hyes:l.any p=true:=List.any_eq_true.2 ⟨l[k],List.getElem_mem hlt,HF.out.1⟩;have HN:=aa hyes;clear hyes;go_wp2_with fail;go_ret;exact⟨k,rfl,by rw [HN.out];simp,H1.out⟩
  ·have hno:=ny HS.out.2 hlt;have HN:=aa hno;clear hno;go_wp2_with fail;go_ret;exact⟨-1,rfl,by rw [HN.out];rfl,HS.out.1⟩
theorem B2(w:World)(A:Option Addr)(c:Nat)(l:List ah)(g:Nat)(x:Lt)(hx:uu w g x)(hA:ax w A (l.map aP))(hl:l.length≤1000000)(hs:∀ t∈l,t.length≤1000000):
 Calls Tryz.prog 83 #[.slice A l.length c,.func (.func 86) #[] #[.pointer (some ⟨g,0,none⟩)]] w
  fun e w'=>e=.returned (.bool (l.any (fun m=>x.ms.contains m)))∧Sm No w w':=by
 have HI0:=CG w A c l g x hx hA hl hs;obtain⟨p,hp⟩:∃ p:ah→Bool,(fun m=>x.ms.contains m)=p:=⟨_,rfl⟩;rw [hp] at HI0 ⊢;have HI:=aa HI0;clear hA hs hp HI0 hx;go_in;go_wp2_with fail;refine HI.out.mono ?_;rintro e w1 ⟨r,rfl,hr,hs1⟩;have HR:=aa (ab hr hs1);clear hr hs1;go_wp2_with fail
 all_goals
  go_ret;exact⟨gi (by rw [←HR.out.1]),HR.out.2⟩
def ie(w:World)(v:Value)(L:List Lt):Prop:=
 ∃ l:List (Lt × Value),l.map Prod.fst=L∧w.ownsRow 0 163 2 v l.length (ga l)∧(∀ x∈l,bi w 0 x.2 x.1.ms)∧∀ x∈L,x.ms.length≤1000000
theorem ie.no{w w':World}{v:Value}{L:List Lt}(h:ie w v L)(hs:Sm No w w'):ie w' v L:=by
 obtain⟨l,h1,h2,h3,h4⟩:=h;exact⟨l,h1,ae h2 hs (fun _ _ h=>h),fun x hx=>(h3 x hx).no hs,h4⟩
theorem ie.form{w:World}{v:Value}{L:List Lt}(h:ie w v L):∃ A c,v=.slice A L.length c∧(L≠[]→∃ g,A=some ⟨g,0,none⟩):=by
 obtain⟨l,rfl,h2,_⟩:=h;rcases aK h2 with ⟨rfl,h0,_⟩|⟨g,cap,rfl,_⟩
 ·have:l=[]:=List.eq_nil_of_length_eq_zero h0;subst this;exact⟨none,0,rfl,fun h=>absurd rfl h⟩
 ·exact⟨some ⟨g,0,none⟩,cap,by simp,fun _=>⟨g,rfl⟩⟩
theorem ie.get{w:World}{A:Option Addr}{n c:Nat}{L:List Lt}(h:ie w (.slice A n c) L){k:Nat}(hk:k < L.length):
 ∃ g A2 c2,A=some ⟨g,0,none⟩∧g < w.heap.size∧w.cell? ⟨g,k * 2,none⟩=some (.int .i64 L[k].id)∧w.cell? ⟨g,k * 2+1,none⟩=some (.slice A2 L[k].ms.length c2)∧ax w A2 (L[k].ms.map aP)∧L[k].ms.length≤1000000∧(A2=none→c2=0):=by
 obtain⟨l,rfl,h2,h3,h4⟩:=h;have hk':k < l.length:=by simpa using hk
 rcases aK h2 with ⟨_,h0,_⟩|⟨g,cap,hv,_,_,hb,_,hx,_⟩
 ·omega
 ·injection hv with hv;subst hv;obtain⟨e1,e2⟩:=zF hk';have hO:=h3 l[k] (List.getElem_mem hk');obtain⟨A2,c2,hv2,hR,_,hn⟩:=au hO;have eL:(l.map Prod.fst)[k]=l[k].1:=by simp
  refine⟨g,A2,c2,rfl,hb,?_,?_,?_,?_,hn⟩
  ·rw [eL];exact hx _ _ e1
  ·rw [eL,←hv2];exact hx _ _ e2
  ·rw [eL];exact hR
  ·exact h4 _ (List.getElem_mem hk)
def FW:Option Int→Value
 |some i=>.tuple #[.int .i64 i,.bool true]
 |none=>.tuple #[.int .i64 0,.bool false]
def FX(w:World)(L:List Lt)(m:ah)(i:Value)(wr:World):Prop:=
 ∃ k:Nat,k≤L.length∧i=.int .i64 k∧Sm No w wr∧tM L m=tM (L.drop k) m
theorem FG{L:List Lt}{k:Nat}(m:ah)(h:k < L.length):tM (L.drop k) m=if (L[k].ms.isEmpty||L[k].ms.contains m)=true then some L[k].id else tM (L.drop (k+1)) m:=by
 rw [List.drop_eq_getElem_cons h,tM]
theorem DA{L:List Lt}{k:Nat}(m:ah)(h:¬k < L.length):tM (L.drop k) m=none:=by
 rw [List.drop_eq_nil_of_le (by omega)];rfl
theorem sR(w:World)(v:Value)(L:List Lt)(m:ByteArray)(h:ie w v L)(hl:L.length≤1000000):
 Calls Tryz.prog 159 #[v,.string m] w fun e w'=>e=.returned (FW (tM L (af m)))∧Sm No w w':=by
 obtain⟨A,c,rfl,_⟩:=h.form;obtain⟨R,hR⟩:=ai (tM L (af m));rw [hR];have HA:=aa (ab h hR);clear h hR;go_in;go_wp2_with fail
 go_loopw [10] (fun i wr=>FX w L (af m) i wr) (fun i _=>L.length-(intOf i).toNat)
 case atStart=>exact⟨0,Nat.zero_le _,rfl,Sm.refl _ _,rfl⟩
 case round=>
  obtain⟨k,hk,rfl,hsm,hof⟩:=hrel;have HS:=aa (ab hsm hof);clear hsm hof;by_cases hlt:k < L.length
  ·obtain⟨g,A2,c2,hA,hg,r0,r1,hR,hl2,_⟩:=(HA.out.1.no HS.out.1).get hlt;subst hA;have hat:=FG (af m) hlt;obtain⟨id,hid⟩:=ai (L[k].id);obtain⟨ms,hms⟩:=ai (L[k].ms);rw [hid] at r0 hat;rw [hms] at r1 hR hl2 hat;obtain⟨b,hb⟩:=ai (ms.contains (af m));rw [hb] at hat;have HB:=aa hb;have hs2:=(Sm.refl No wr).alloc (.cells #[.int .i64 id,.slice A2 ms.length c2] 163);have HM:=aa (ab hat (ab (hR.no hs2) (HS.out.1.tt hs2)));have k1:(0:Int)≤(k:Int):=by omega
   have k2:(k:Int) < (L.length:Int):=by omega
   clear hid hms hat hR hb hs2;by_cases hm0:ms=[]
   ·subst hm0;have e0:((([]:List ah).length:Int)==0)=true:=rfl;have hRR:R=some id:=by rw [←HA.out.2,HS.out.2,HM.out.1];rfl
    subst hRR;go_wp2_with fail;go_ret2;exact⟨rfl,HM.out.2.2⟩
   ·have e0:((ms.length:Int)==0)=false:=by simp;exact hm0
    have hE:ms.isEmpty=false:=by cases ms with
     |nil=>exact absurd rfl hm0
     |cons a r=>rfl
    have HE:=aa hE;clear hE hm0;go_wp2_with fail;refine(dY HB _ A2 c2 HM.out.2.1 hl2).mono ?_;rintro e w2 ⟨rfl,rfl⟩
    cases b
    ·have hof:tM L (af m)=tM (L.drop (k+1)) (af m):=by rw [HS.out.2,HM.out.1,HE.out];rfl
     have HO:=aa hof;clear hof;go_wp2_with fail;exact⟨⟨k+1,by omega,by go_num,HM.out.2.2,HO.out⟩,by simp [intOf];omega⟩
    ·have hRR:R=some id:=by rw [←HA.out.2,HS.out.2,HM.out.1,HE.out];rfl
     subst hRR;go_wp2_with fail;go_ret2;exact⟨rfl,HM.out.2.2⟩
  ·have hRR:R=none:=by rw [←HA.out.2,HS.out.2,DA _ hlt]
   subst hRR;go_wp2_with fail;go_ret2;exact⟨rfl,HS.out.1⟩
theorem zt(w:World):∃ O:Nat→Prop,aT (((w.alloc (.map #[] 0)).alloc (.map #[] 0)).alloc (.cells #[.map (some w.heap.size),.map (some (w.heap.size+1)),.int .i64 0] 158)) O (w.heap.size+2) []∧
 Sm No w (((w.alloc (.map #[] 0)).alloc (.map #[] 0)).alloc (.cells #[.map (some w.heap.size),.map (some (w.heap.size+1)),.int .i64 0] 158))∧∀ b,O b→w.heap.size≤b:=by
 have h1:=dj.made w;have hs1:=(Sm.refl No w).alloc (.map #[] 0);have h2:=dj.made (w.alloc (.map #[] 0));have hs2:=(Sm.refl No (w.alloc (.map #[] 0))).alloc (.map #[] 0);have hb:=Bk.newAt ((w.alloc (.map #[] 0)).alloc (.map #[] 0)) 158 #[.map (some w.heap.size),.map (some (w.heap.size+1)),.int .i64 0] (g:=w.heap.size+2) (by simp);have hs3:=(Sm.refl No ((w.alloc (.map #[] 0)).alloc (.map #[] 0))).alloc (.cells #[.map (some w.heap.size),.map (some (w.heap.size+1)),.int .i64 0] 158);have e1:(w.alloc (.map #[] 0)).heap.size=w.heap.size+1:=by simp
 rw [e1] at h2;refine⟨fun b=>w.heap.size≤b∧b≤w.heap.size+2,⟨w.heap.size,w.heap.size+1,fun _ _=>lQ,fun _ _=>[],hb,(h1.sm hs2 (fun h=>h)).sm hs3 (fun h=>h),h2.sm hs3 (fun h=>h),?_,fun _ _=>rfl,?_,?_,?_,?_,?_⟩,(hs1.tt hs2).tt hs3,fun b hb=>hb.1⟩
 ·exact⟨fun _ _=>World.ownsRow_nil _ _ _ _,fun _ _ _=>rfl,fun _ _ x hx=>(by cases hx),fun _ _ _ _ _=>Or.inl rfl,fun _ _ g hg=>(by cases hg),fun _ _ x hx=>(by cases hx)⟩
 ·exact⟨by omega,by omega⟩
 ·exact⟨by omega,by omega⟩
 ·exact⟨by omega,by omega⟩
 ·omega
 ·intro b hb;simp;omega
theorem Ej(w:World):Calls Tryz.prog 57 #[] w fun e w'=>∃ r O,e=.returned (.pointer (some ⟨r,0,none⟩))∧aT w' O r []∧Sm No w w'∧∀ b,O b→w.heap.size≤b:=by
 have hmm:= @run_makeMap Tryz.prog;obtain⟨O,hO⟩:=zt w;have HO:=aa hO;clear hO;go_in;go_wp2_with fail;go_ret;exact⟨_,O,rfl,HO.out⟩
theorem GX(w:World)(g:Addr)(l c:Nat):(binOp .neq 161 (.slice (some g) l c) (.slice none 0 0)).run Tryz.prog w=.ok (.bool true) w:=run_neq_slice_nil w _ _ (some g) l c Tryz.underlying161
theorem GW(w:World):(binOp .neq 161 (.slice none 0 0) (.slice none 0 0)).run Tryz.prog w=.ok (.bool false) w:=run_neq_slice_nil w _ _ none 0 0 Tryz.underlying161
theorem GL(w:World)(g:Addr)(l c:Nat):(binOp .eql 161 (.slice (some g) l c) (.slice none 0 0)).run Tryz.prog w=.ok (.bool false) w:=Lib.run_eql_slice_nil w _ _ (some g) l c 0 0 Tryz.underlying161
theorem GF(w:World):(binOp .eql 161 (.slice none 0 0) (.slice none 0 0)).run Tryz.prog w=.ok (.bool true) w:=Lib.run_eql_slice_nil w _ _ none 0 0 0 0 Tryz.underlying161
def B3(w:World)(L:List Lt)(path:ah)(e:Ending)(w':World):Prop:=
 ∃ v rest,e=.returned (.tuple #[v,fp rest])∧Sm No w w'∧((jt L path=none∧v=lQ∧rest=[])∨∃ k,jt L path=some (k,rest)∧gF L k≠[]∧ie w v (gF L k))
theorem aT.at{w:World}{O:Nat→Prop}{r:Nat}{L:List Lt}(h:aT w O r L)(hms:∀ x∈L,x.ms.length≤1000000):∃ (ba bu:Nat) (f:Bool→ah→Value),Bk w r 158 #[.map (some ba),.map (some bu),.int .i64 L.length]∧dj w ba L.length (f false)∧dj w bu L.length (f true)∧
 ∀ d q,ie w (f d q) (gF L (d,q))∧(gF L (d,q)=[]→f d q=lQ):=by
 obtain⟨ba,bu,f,l,h1,h2,h3,h4,h5,_⟩:=h;refine⟨ba,bu,f,h1,h2,h3,fun d q=>⟨⟨l d q,h5 d q,h4.own d q,h4.ms d q,fun x hx=>hms x (List.mem_filter.1 hx).1⟩,fun e=>h4.nil d q ?_⟩⟩;rw [←h5] at e;exact List.map_eq_nil_iff.1 e
def DG(w:World)(L:List Lt)(path:ah)(i:Value)(wr:World):Prop:=
 ∃ n:Nat,n≤path.length∧i=.int .i64 ((n:Int)-1)∧Sm No w wr∧gj L path path.length=gj L path n
theorem FC(s:ByteArray)(k:Nat)(h:k < s.size):(af s)[k]?=some s[k]:=by
 unfold af;rw [List.getElem?_eq_getElem (by simpa using h)];rfl
theorem Cf(w:World)(O:Nat→Prop)(r:Nat)(L:List Lt)(path:ByteArray)(h:aT w O r L)(hms:∀ x∈L,x.ms.length≤1000000)(hp:path.size≤1000000):
 Calls Tryz.prog 158 #[.pointer (some ⟨r,0,none⟩),.string path] w (B3 w L (af path)):=by
 obtain⟨ba,bu,f,hb,ha,hu,hf⟩:=h.at hms;have nS:=GX;have nN:=GW;have c0:=hb.at 0 (v:=.map (some ba)) rfl;have hl0:=ha.look path hp;have HA:=aa (ab hb (ab ha (ab hu hf)));obtain⟨hf0,hn0⟩:=hf false (af path);clear hb ha hu hf h;by_cases he:gF L (false,af path)=[]
 ·rw [hn0 he] at hl0;unfold lQ at hl0;have hP:jt L (af path)=(gj L (af path) (af path).length).map (fun i=>((true,(af path).take (i+1)),(af path).drop (i+1))):=by
   unfold jt;rw [he];rfl
  have HP:=aa (ab hP he);clear hP he hf0 hn0;go_in;go_wp2_with fail
  go_loopw [7] (fun i wr=>DG w L (af path) i wr) (fun i _=>(intOf i+1).toNat)
  case atStart=>exact⟨path.size,by rw [ag];exact Nat.le_refl _,rfl,Sm.refl _ _,by rw [ag]⟩
  case round=>
   obtain⟨n,hn,rfl,hsm,hd⟩:=hrel;rw [ag] at hn;have HS:=aa (ab hsm hd);have c1:wr.cell? ⟨r,1,none⟩=some (.map (some bu)):=(HA.out.1.sm hsm (fun h=>h)).at 1 rfl;have hu:=HA.out.2.2.1.sm hsm (fun h=>h);clear hsm hd
   cases n with
   |zero=>
    have hnone:jt L (af path)=none:=by rw [HP.out.1,HS.out.2];rfl
    have HN:=aa hnone;have k0:((0:Nat):Int)-1= -1:=by omega
    clear hnone hu;go_wp2_with fail;go_ret2;exact⟨lQ,[],rfl,HS.out.1,Or.inl ⟨HN.out,rfl,rfl⟩⟩
   |succ m=>
    have hlt:m < path.size:=by omega
    have hd:=FC path m hlt;obtain⟨ch,hc⟩:=ai (path[m]);rw [hc] at hd;have k0:((m+1:Nat):Int)-1=(m:Int):=by omega
    have kA:(0:Int)≤(m:Int):=by omega
    have kB:(m:Int) < (path.size:Int):=by omega
    rw [k0];by_cases hc1:ch=47
    ·have ht:((ch.toNat:Int)==47)=true:=by rw [hc1];rfl
     have hq:af (path.extract 0 (m+1))=(af path).take (m+1):=by unfold af;rw [Lib.extract_data];simp
     have hl1:∀ nq,(Instr.lookup 156 (.map (some bu)) (.string (path.extract 0 (m+1))) false).run Tryz.prog (wr.drewN nq)=.ok (f true ((af path).take (m+1))) (wr.drewN nq):=fun nq=>by
      rw [←hq];exact(show dj (wr.drewN nq) bu L.length (f true) from hu.sm ((Sm.refl No wr).drewN nq) (fun h=>h)).look _ (by simp;omega)
     obtain⟨hf1,hn1⟩:=HA.out.2.2.2 true ((af path).take (m+1));by_cases hw:gF L (true,(af path).take (m+1))=[]
     ·rw [hn1 hw] at hl1;unfold lQ at hl1;go_wp2_with fail;have hno:gj L (af path) (m+1)=gj L (af path) m:=by rw [gj,if_neg];intro hc;unfold FU at hc;rw [hw] at hc;exact absurd hc.2 (by simp)
      have HN:=aa hno;clear hno;go_quiet (fail);go_wp2_with fail;exact⟨⟨m,by rw [ag];omega,rfl,HS.out.1.drewN _,by rw [HS.out.2,HN.out]⟩,by simp [intOf]⟩
     ·obtain⟨A,c,hv,hA⟩:=hf1.form;obtain⟨g,rfl⟩:=hA hw;rw [hv] at hl1;go_wp2_with fail;go_quiet (fail);have hyes:gj L (af path) (m+1)=some m:=by
       rw [gj,if_pos];refine⟨by rw [hd,hc1],?_⟩;unfold FU;simpa using hw
      have hr:(⟨((af path).drop (m+1)).toArray⟩:ByteArray)=path.extract (m+1) path.size:=by
       rw [←fr (path.extract (m+1) path.size)];congr 2;unfold af;rw [Lib.extract_data,List.take_of_length_le (by simp)]
      have HN:=aa (ab hyes (ab hr (ab hf1 (ab hv hw))));clear hyes hr hf1 hn1 hv hw;go_wp2_with fail;go_quiet (fail);go_wp2_with fail;go_ret2;have hfin:ie w (.slice (some ⟨g,0,none⟩) (gF L (true,(af path).take (m+1))).length c) (gF L (true,(af path).take (m+1))):=by rw [←HN.out.2.2.2.1];exact HN.out.2.2.1
      refine⟨.slice (some ⟨g,0,none⟩) (gF L (true,(af path).take (m+1))).length c,(af path).drop (m+1),?_,(HS.out.1.drewN _).drewN _,Or.inr ⟨_,by rw [HP.out.1,HS.out.2,HN.out.1];rfl,HN.out.2.2.2.2,hfin⟩⟩;rw [fp,HN.out.2.1];rfl
    ·have ht:((ch.toNat:Int)==47)=false:=dq (n:=47) (by decide) hc1;go_wp2_with fail;have hno:gj L (af path) (m+1)=gj L (af path) m:=by rw [gj,if_neg];intro hc';rw [hd] at hc';exact hc1 (Option.some.inj hc'.1)
     have HN:=aa hno;clear hno;go_quiet (fail);go_wp2_with fail;exact⟨⟨m,by rw [ag];omega,rfl,HS.out.1.drewN _,by rw [HS.out.2,HN.out]⟩,by simp [intOf]⟩
 ·obtain⟨A,c,hv,hA⟩:=hf0.form;obtain⟨g,rfl⟩:=hA he;rw [hv] at hl0 hf0;have hP:jt L (af path)=some ((false,af path),[]):=by
   unfold jt;rw [if_neg (by simpa using he)]
  have HP:=aa (ab hP (ab hf0 he));clear hP hf0 hn0 he;go_in;go_wp2_with fail;go_ret2;exact⟨_,[],rfl,Sm.refl _ _,Or.inr ⟨_,HP.out.1,HP.out.2.2,HP.out.2.1⟩⟩
def wA(w:World)(O:Nat→Prop)(r:Nat)(L:List Lt)(ba bu:Nat)(f:Bool→ah→Value)(l:Bool→ah→List (Lt × Value)):Prop:=
 Bk w r 158 #[.map (some ba),.map (some bu),.int .i64 L.length]∧dj w ba L.length (f false)∧dj w bu L.length (f true)∧ES w O f l∧(∀ d q,(l d q).map Prod.fst=gF L (d,q))∧
  O r∧O ba∧O bu∧ba≠bu∧∀ b,O b→b < w.heap.size
theorem jj{w:World}{b n:Nat}{f:ah→Value}(h:dj w b n f){cs:Array Value}{t:TypeId}(hc:w.heap[b]?=some (.cells cs t (0,0))):False:=by
 obtain⟨es,clock,he⟩:=h.isMap;rw [he] at hc
 cases hc
theorem eS{w:World}{B size n m b:Nat}{t:TypeId}{v:Value}{xs:List Value}{f:ah→Value}(h:w.ownsRow B t size v n xs)(hm:dj w b m f):v.ownBlock≠some b:=fun e=>by
 obtain⟨cur,hc⟩:=az h e;exact jj hm hc
theorem am{w:World}{B size n b:Nat}{t t':TypeId}{v:Value}{xs:List Value}{cs:Array Value}(h:w.ownsRow B t size v n xs)(hb:Bk w b t' cs)(ht:t≠t'):v.ownBlock≠some b:=fun e=>by
 obtain⟨cur,hc⟩:=az h e;unfold Bk at hb;rw [hb] at hc;injection hc with hc;injection hc with _ e2;exact ht e2.symm
theorem gM{w:World}{b m c:Nat}{t':TypeId}{f:ah→Value}{cs:Array Value}(hb:Bk w b t' cs)(hm:dj w c m f):b≠c:=by
 rintro rfl;exact jj hm hb
theorem lx{w:World}{B B' size size' n n':Nat}{t t':TypeId}{v v':Value}{xs xs':List Value}(h:w.ownsRow B t size v n xs)(h':w.ownsRow B' t' size' v' n' xs')(ht:t≠t'){b:Nat}(e:v.ownBlock=some b):v'.ownBlock≠some b:=fun e'=>by
 obtain⟨cur,hc⟩:=az h e;obtain⟨cur',hc'⟩:=az h' e';rw [hc] at hc';injection hc' with hc';injection hc' with _ e2;exact ht e2
def lf(f:Bool→ah→Value)(wd:Bool)(q:ah)(v:Value):Bool→ah→Value:=fun d k=>if d=wd∧k=q then v else f d k
def yj(l:Bool→ah→List (Lt × Value))(wd:Bool)(q:ah)(x:Lt × Value):Bool→ah→List (Lt × Value):=fun d k=>if d=wd∧k=q then l d k++[x] else l d k
theorem vo {w w4 w5 w6 w7:World} {O:Nat→Prop} {r:Nat} {L:List Lt} {ba bu mb:Nat} {f:Bool→ah→Value} {l:Bool→ah→List (Lt × Value)} (h:wA w O r L ba bu f l) {wd:Bool} {q:ah} {x:Lt}
 (hk:eb x.pat=(wd,q)) (hmb:(if wd=true then bu else ba)=mb) {cv v':Value} (s4:Sm No w w4) (hc:bi w4 w.heap.size cv x.ms) (s5:Sm No w4 w5)
 (hv:w6.ownsRow 0 163 2 v' ((l wd q).length+1) (ga (l wd q)++[.int .i64 x.id,cv])) (s6:Sm (fun b=>(f wd q).ownBlock=some b) w5 w6) (hb:v'.ownBlock=(f wd q).ownBlock∨v'.ownBlock=some w5.heap.size)
 (hm:dj w7 mb (L.length+1) (fun k=>if k=q then v' else f wd k)) (s7:Sm (fun g=>g=mb) w6 w7):
 aT (w7.setCell ⟨r,2,none⟩ (.int .i64 ((L.length:Int)+1))) (fun b=>O b∨(w.heap.size≤b∧b < w7.heap.size)) r (L++[x])∧Sm O w (w7.setCell ⟨r,2,none⟩ (.int .i64 ((L.length:Int)+1))):=by
 obtain⟨h1,h2,h3,h4,h5,h6,h7,h8,h9,h10⟩:=h;have hbO:O mb:=by rw [←hmb];split<;>assumption
 have hmw:dj w mb L.length (f wd):=by
  rw [←hmb]
  cases wd
  ·exact h2
  ·exact h3
 have z4:=s4.size;have z5:=s5.size;have z6:=s6.size;have z7:=s7.size;have hrmb:r≠mb:=gM h1 hmw;have hfr:∀ d k,(f d k).ownBlock≠some r:=fun d k=>am (h4.own d k) h1 (by decide);have hfm:∀ d k,(f d k).ownBlock≠some mb:=fun d k=>eS (h4.own d k) hmw;have hflt:∀ d k g,(f d k).ownBlock=some g→g < w.heap.size:=fun d k g hg=>fY (h4.own d k) hg;have s8:Sm (fun b=>b=r) w7 (w7.setCell ⟨r,2,none⟩ (.int .i64 ((L.length:Int)+1))):=(Sm.refl _ w7).set1 2 _;obtain⟨w8,hw8⟩:=ai (w7.setCell ⟨r,2,none⟩ (.int .i64 ((L.length:Int)+1)));have z8:w8.heap.size=w7.heap.size:=by rw [←hw8];simp
 have s48:Sm (fun b=>(f wd q).ownBlock=some b∨b=mb∨b=r) w4 w8:=by
  rw [←hw8];exact(((s5.any _).trans s6 (fun b _ e=>Or.inl e)).trans s7 (fun b _ e=>Or.inr (Or.inl e))).trans s8 (fun b _ e=>Or.inr (Or.inr e))
 have s18:Sm (fun b=>(f wd q).ownBlock=some b∨b=mb∨b=r) w w8:=(s4.any _).trans s48 (fun b _ e=>e);have s68:Sm (fun b=>b=mb∨b=r) w6 w8:=by
  rw [←hw8];exact(s7.mono (fun b _ e=>Or.inl e)).trans s8 (fun b _ e=>Or.inr e)
 have hbr:Bk w7 r 158 #[.map (some ba),.map (some bu),.int .i64 L.length]:=
  ((((h1.sm s4 (fun h=>h)).sm s5 (fun h=>h)).sm s6 (hfr wd q)).sm s7 hrmb)
 have hb8:Bk w8 r 158 #[.map (some ba),.map (some bu),.int .i64 ((L++[x]).length:Nat)]:=by
  rw [←hw8];exact(hbr.set 2 _).eq (by simp)
 have hv6:v'.ownBlock≠some mb∧v'.ownBlock≠some r:=by
  rcases hb with e|e
  ·rw [e];exact⟨hfm wd q,hfr wd q⟩
  ·rw [e];have:=h10 r h6;have:=h10 mb hbO;refine⟨fun e=> ?_,fun e=> ?_⟩<;>(injection e with e;omega)
 have hv8:=ae hv s68 (fun b e hS=>by
  rcases hS with rfl|rfl
  ·exact hv6.1 e
  ·exact hv6.2 e)
 have hc8:bi w8 0 cv x.ms:=bI (ae hc s48 (fun b e hS=>by
  have hge:=(World.ownsRow.lt hc _ e).1;rcases hS with h|rfl|rfl
  ·have:=hflt _ _ _ h;omega
  ·have:=h10 _ hbO;omega
  ·have:=h10 _ h6;omega)) (fun _ _=>Nat.zero_le _)
 have hO:∀ b,O b→b < w.heap.size:=h10;refine⟨?_,?_⟩
 ·rw [hw8];refine⟨ba,bu,lf f wd q v',yj l wd q (x,cv),hb8,?_,?_,?_,?_,Or.inl h6,Or.inl h7,Or.inl h8,h9,?_⟩
  ·cases wd
   ·obtain rfl:ba=mb:=by simpa using hmb
    have:=(hm.sm s8 (fun e=>hrmb e.symm));rw [hw8] at this;have e:(fun k=>if k=q then v' else f false k)=lf f false q v' false:=by funext k;simp [lf]
    rw [e] at this;rw [List.length_append];exact this
   ·obtain rfl:bu=mb:=by simpa using hmb
    have e:lf f true q v' false=f false:=by funext k;simp [lf]
    rw [e];exact(h2.sm s18 (fun hS=>by
     rcases hS with hS|hS|hS
     ·exact eS (h4.own true q) h2 hS
     ·exact h9 hS
     ·exact gM h1 h2 hS.symm)).mono (by simp)
  ·cases wd
   ·obtain rfl:ba=mb:=by simpa using hmb
    have e:lf f false q v' true=f true:=by funext k;simp [lf]
    rw [e];exact(h3.sm s18 (fun hS=>by
     rcases hS with hS|hS|hS
     ·exact eS (h4.own false q) h3 hS
     ·exact h9 hS.symm
     ·exact gM h1 h3 hS.symm)).mono (by simp)
   ·obtain rfl:bu=mb:=by simpa using hmb
    have:=(hm.sm s8 (fun e=>hrmb e.symm));rw [hw8] at this;have e:(fun k=>if k=q then v' else f true k)=lf f true q v' true:=by funext k;simp [lf]
    rw [e] at this;rw [List.length_append];exact this
  ·have hother:∀ d k,¬(d=wd∧k=q)→∀ b,(f d k).ownBlock=some b→¬((f wd q).ownBlock=some b∨b=mb∨b=r):=fun d k hne b e hS=>by
    rcases hS with hS|rfl|rfl
    ·rcases h4.apart d k wd q (fun e'=>hne ⟨(Prod.mk.inj e').1,(Prod.mk.inj e').2⟩) with g|g
     ·rw [g] at e;cases e
     ·exact g (e.trans hS.symm)
    ·exact hfm d k e
    ·exact hfr d k e
   refine⟨fun d k=> ?_,fun d k=> ?_,fun d k y hy=> ?_,fun d k d' k' hne=> ?_,fun d k g hg=> ?_,fun d k y hy g hg=> ?_⟩
   ·unfold lf yj;by_cases e:d=wd∧k=q
    ·obtain⟨rfl,rfl⟩:=e;rw [if_pos ⟨rfl,rfl⟩,if_pos ⟨rfl,rfl⟩,List.length_append,ga,List.flatMap_append];exact hv8
    ·rw [if_neg e,if_neg e];exact ae (h4.own d k) s18 (hother d k e)
   ·unfold lf yj;by_cases e:d=wd∧k=q
    ·rw [if_pos e,if_pos e];simp
    ·rw [if_neg e,if_neg e];exact h4.nil d k
   ·have hold:∀ y∈l d k,bi w8 0 y.2 y.1.ms:=fun y hy=>ae (h4.ms d k y hy) s18 (fun b e hS=>by
     rcases hS with hS|rfl|rfl
     ·exact lx (h4.ms d k y hy) (h4.own wd q) (by decide) e hS
     ·exact eS (h4.ms d k y hy) hmw e
     ·exact am (h4.ms d k y hy) h1 (by decide) e)
    unfold yj at hy;split at hy
    ·rcases List.mem_append.1 hy with hy|hy
     ·exact hold y hy
     ·rw [List.mem_singleton] at hy;subst hy;exact hc8
    ·exact hold y hy
   ·unfold lf;by_cases e:d=wd∧k=q
    ·obtain⟨rfl,rfl⟩:=e;have e':¬(d'=d∧k'=k):=fun e'=>hne (by rw [e'.1,e'.2]);rw [if_pos ⟨rfl,rfl⟩,if_neg e'];rcases hb with g|g
     ·rw [g];exact h4.apart d k d' k' hne
     ·refine Or.inr (fun g2=> ?_);rw [g] at g2;have:=hflt _ _ _ g2.symm;omega
    ·rw [if_neg e];by_cases e':d'=wd∧k'=q
     ·obtain⟨rfl,rfl⟩:=e';rw [if_pos ⟨rfl,rfl⟩];rcases hb with g|g
      ·rw [g];exact h4.apart d k d' k' hne
      ·by_cases g3:(f d k).ownBlock=none
       ·exact Or.inl g3
       ·refine Or.inr (fun g2=> ?_);rw [g] at g2;have:=hflt _ _ _ g2;omega
     ·rw [if_neg e'];exact h4.apart d k d' k' hne
   ·unfold lf at hg;split at hg
    ·rcases hb with g2|g2
     ·exact Or.inl (h4.inO wd q g (g2 ▸ hg))
     ·have:=fY hv hg;rw [g2] at hg;injection hg with hg;exact Or.inr ⟨by omega,by omega⟩
    ·exact Or.inl (h4.inO d k g hg)
   ·have hold:∀ y∈l d k,y.2.ownBlock=some g→O g:=fun y hy e=>h4.inM d k y hy g e;unfold yj at hy;split at hy
    ·rcases List.mem_append.1 hy with hy|hy
     ·exact Or.inl (hold y hy hg)
     ·rw [List.mem_singleton] at hy;subst hy;have:=fY hc hg;have:=(World.ownsRow.lt hc _ hg).1;exact Or.inr ⟨by omega,by omega⟩
    ·exact Or.inl (hold y hy hg)
  ·intro d k;unfold yj;rw [Dn,hk];by_cases e:d=wd∧k=q
   ·obtain⟨rfl,rfl⟩:=e;rw [if_pos ⟨rfl,rfl⟩,if_pos rfl,List.map_append,h5];rfl
   ·rw [if_neg e,if_neg (fun e'=>e ⟨(Prod.mk.inj e').1.symm,(Prod.mk.inj e').2.symm⟩),h5]
  ·intro b hb';rw [z8];rcases hb' with hb'|hb'
   ·have:=hO b hb';omega
   ·exact hb'.2
 ·rw [hw8];refine s18.mono (fun b _ e=> ?_);rcases e with e|rfl|rfl
  ·exact h4.inO wd q b e
  ·exact hbO
  ·exact h6
end Go.Proofs.YtadcjgopaadfjaaGreatDoor
