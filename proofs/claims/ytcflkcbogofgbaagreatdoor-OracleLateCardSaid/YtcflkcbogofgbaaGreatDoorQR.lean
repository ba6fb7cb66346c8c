import Derived.Test.YtcflkcbogofgbaaGreatDoorQI
import Derived.Test.YtcflkcbogofgbaaGreatDoorQO
import Derived.Maps.OwnSet
import Derived.StringKeys
import Derived.Sort.OwnSorted
import Derived.Carry
import Derived.Laws.Cover3
import Derived.Lib.SliceRun
set_option maxHeartbeats 8000000
set_option maxRecDepth 100000
namespace Go.Proofs.YtcflkcbogofgbaaGreatDoor
open Go.RowKit Go.Proofs Go.Maps
def RR(v:Value):Option (DataW Value × List MemPlace):=some (.held v,[])
def mP:Value:=.slice none 0 0
def dF(w:World)(b n:Nat)(f:af→Value):Prop:=
 ∃ D:DataW Value,w.ownsMap Tryz.prog 9 RR b n D∧∀ s:af,D.atKey (.string s) (.held mP)=.held (f s)
theorem Hh:Keyed Tryz.prog 9:=string_keyed Tryz.underlying9
theorem wE(w:World):(zeroValue 167).run Tryz.prog w=.ok mP w:=by kernel_rfl
section
variable {S:Nat→Prop} {w w':World} {b n:Nat} {f:af→Value}
theorem dF.made(w:World):dF (w.alloc (.map #[] 0)) w.heap.size 0 (fun _=>mP):=⟨.map [],World.ownsMap_made w _ _ _,fun _=>rfl⟩
theorem dF.sm(h:dF w b n f)(hs:Sm S w w')(hb:¬S b):dF w' b n f:=by
 obtain⟨D,h1,h2⟩:=h;exact⟨D,Cg h1 hs hb,h2⟩
theorem dF.mono(h:dF w b n f){m:Nat}(hm:n≤m):dF w b m f:=by
 obtain⟨D,h1,h2⟩:=h;exact⟨D,h1.mono hm,h2⟩
theorem dF.lt(h:dF w b n f):b < w.heap.size:=by
 obtain⟨D,h1,_⟩:=h;exact h1.lt
theorem dF.isMap(h:dF w b n f):∃ es clock,w.heap[b]?=some (.map es clock):=by
 obtain⟨D,⟨es,clock,h1,_⟩,_⟩:=h;exact⟨es,clock,h1⟩
theorem dF.look(h:dF w b n f)(s:ByteArray)(hs:s.size≤1000000):
 (Instr.lookup 162 (.map (some b)) (.string s) false).run Tryz.prog w=.ok (f (ab s)) w:=by
 obtain⟨D,h1,h2⟩:=h;obtain⟨v,ps,hrun,hv⟩:=h1.lookup Hh Tryz.underlying162 (wE w) (zd:=.held mP) (zp:=[]) rfl (WideMaps.keyOf_string_mk Tryz.underlying9 (s:=s) (by unfold maxLen;omega));rw [h2] at hv;unfold RR at hv;injection hv with hv;have e:=(Prod.mk.inj hv).1;injection e with e;subst e;exact hrun
theorem dF.put(h:dF w b n f)(hn:n≤1000000)(s:ByteArray)(hs:s.size≤1000000)(v:Value):
 ∃ w',(Instr.mapUpdate 162 (.map (some b)) (.string s) v).run Tryz.prog w=.ok () w'∧dF w' b (n+1) (fun q=>if q=ab s then v else f q)∧Sm (fun g=>g=b) w w':=by
 obtain⟨D,h1,h2⟩:=h;obtain⟨w',hrun,ho,hg⟩:=h1.update Hh Tryz.underlying162 (by unfold maxLen;omega) (val:=v) (d:=.held v) (ps:=[]) (WideMaps.keyOf_string_mk Tryz.underlying9 (s:=s) (by unfold maxLen;omega)) rfl;refine⟨w',hrun,⟨_,ho,fun q=> ?_⟩,(Sm.refl _ w).grown hg (fun k hk=>Or.inl (by injection hk with hk;exact hk.symm))⟩;obtain⟨es,clock,_,_,_,hD⟩:=h1;have hmap:IsMap D:=⟨_,hD⟩;by_cases e:q=ab s
 ·subst e;show _=DataW.held (if ab s=ab s then v else f (ab s));rw [if_pos rfl];exact atKey_put_same hmap (by simp [WideAt.IsKeyLit]) _ _
 ·show _=DataW.held (if q=ab s then v else f q);rw [if_neg e,atKey_put_other (fun e'=>e (by injection e'))];exact h2 q
end
theorem jh{B size n:Nat}{t:TypeId}{w:World}{v:Value}{xs:List Value}(h:w.ownsRow B t size v n xs){g:Nat}(hg:v.ownBlock=some g):g < w.heap.size:=by
 rcases aR h with ⟨rfl,_,_⟩|⟨g',cap,rfl,hg',_,hb,_⟩
 ·cases hg
 ·rw [hg'] at hg;injection hg with hg;omega
theorem ax{B size n:Nat}{t:TypeId}{w:World}{v:Value}{xs:List Value}(h:w.ownsRow B t size v n xs){g:Nat}(hg:v.ownBlock=some g):∃ cur,w.heap[g]?=some (.cells cur t (0,0)):=by
 rcases h.2 with ⟨rfl,_⟩|⟨g',cap,cur,rfl,_,hh,_⟩
 ·cases hg
 ·have:g'=g:=by simpa [Value.ownBlock] using hg
  subst this;exact⟨cur,hh⟩
def gE(l:List (Lt × Value)):List Value:=l.flatMap fun x=>[.int .i64 x.1.id,x.2]
theorem zQ{l:List (Lt × Value)}{k:Nat}(h:k < l.length):(gE l)[k * 2]?=some (.int .i64 l[k].1.id)∧(gE l)[k * 2+1]?=some l[k].2:=by
 induction l generalizing k with
 |nil=>simp at h
 |cons x l ih=>
  cases k with
  |zero=>exact⟨rfl,rfl⟩
  |succ k=>
   have hk:k < l.length:=by simpa using h
   obtain⟨h1,h2⟩:=ih hk;have e1:(k+1) * 2=k * 2+2:=by omega
   rw [e1];exact⟨h1,h2⟩
structure F1 (w:World) (O:Nat→Prop) (f:Bool→af→Value) (l:Bool→af→List (Lt × Value)):Prop where
 own:∀ d q,w.ownsRow 0 169 2 (f d q) (l d q).length (gE (l d q))
 nil:∀ d q,l d q=[]→f d q=mP
 ms:∀ d q,∀ x∈l d q,bo w 0 x.2 x.1.ms
 apart:∀ d q d' q',(d,q)≠(d',q')→(f d q).ownBlock=none∨(f d q).ownBlock≠(f d' q').ownBlock
 inO:∀ d q g,(f d q).ownBlock=some g→O g
 inM:∀ d q,∀ x∈l d q,∀ g,x.2.ownBlock=some g→O g
def bj(w:World)(O:Nat→Prop)(r:Nat)(L:List Lt):Prop:=
 ∃ ba bu f l,Bk w r 164 #[.map (some ba),.map (some bu),.int .i64 L.length]∧dF w ba L.length (f false)∧dF w bu L.length (f true)∧F1 w O f l∧(∀ d q,(l d q).map Prod.fst=iN L (d,q))∧
   O r∧O ba∧O bu∧ba≠bu∧∀ b,O b→b < w.heap.size
theorem F1.sm{S O:Nat→Prop}{w w':World}{f:Bool→af→Value}{l:Bool→af→List (Lt × Value)}(h:F1 w O f l)(hs:Sm S w w')(hS:∀ b,O b→¬S b):F1 w' O f l where
 own:=fun d q=>aa (h.own d q) hs (fun g hg=>hS g (h.inO d q g hg))
 nil:=h.nil
 ms:=fun d q x hx=>aa (h.ms d q x hx) hs (fun g h2=>hS g (h.inM d q x hx g h2))
 apart:=h.apart
 inO:=h.inO
 inM:=h.inM
theorem F1.mono{O O':Nat→Prop}{w:World}{f:Bool→af→Value}{l:Bool→af→List (Lt × Value)}(h:F1 w O f l)(hO:∀ b,O b→O' b):F1 w O' f l:=
 ⟨h.own,h.nil,h.ms,h.apart,fun d q g hg=>hO g (h.inO d q g hg),fun d q x hx g h2=>hO g (h.inM d q x hx g h2)⟩
theorem bj.sm{S O:Nat→Prop}{w w':World}{r:Nat}{L:List Lt}(h:bj w O r L)(hs:Sm S w w')(hS:∀ b,O b→¬S b):bj w' O r L:=by
 obtain⟨ba,bu,f,l,h1,h2,h3,h4,h5,h6,h7,h8,h9,h10⟩:=h;exact⟨ba,bu,f,l,h1.sm hs (hS r h6),h2.sm hs (hS ba h7),h3.sm hs (hS bu h8),h4.sm hs hS,h5,h6,h7,h8,h9,fun b hb=>Nat.lt_of_lt_of_le (h10 b hb) hs.size⟩
theorem bj.no{O:Nat→Prop}{w w':World}{r:Nat}{L:List Lt}(h:bj w O r L)(hs:Sm No w w'):bj w' O r L:=h.sm hs (fun _ _ h=>h)
end Go.Proofs.YtcflkcbogofgbaaGreatDoor
namespace Go.Proofs.YtcflkcbogofgbaaGreatDoor
open Go.RowKit Go.Proofs
theorem ar.at{w:World}{A:Option Addr}{cs:List Value}(h:ar w A cs){j:Nat}{u:Value}(hj:cs[j]?=some u):∃ bb off,A=some ⟨bb,off,none⟩∧bb < w.heap.size∧w.cell? ⟨bb,off+j,none⟩=some u:=h j u hj
theorem fG{l:List af}{k:Nat}(h:k < l.length):(l.map aX)[k]?=some (.string ⟨l[k].toArray⟩):=by simp [h,aX]
theorem jX(l:af):ab ⟨l.toArray⟩=l:=by simp [ab]
theorem oK(s:ByteArray):(⟨(ab s).toArray⟩:ByteArray)=s:=by cases s;simp [ab]
theorem rZ(w:World)(A:Option Addr)(c:Nat)(l:List af)(x:ByteArray)(h:ar w A (l.map aX))(hl:l.length≤1000000):
 Calls Tryz.prog 69 #[.slice A l.length c,.string x] w fun e w'=>e=.returned (.bool (l.contains (ab x)))∧w'=w:=by
 by_cases h0:l=[]
 ·subst h0;exact Tryz.slices_Contains_string_empty A c x w
 ·have hp:0 < l.length:=List.length_pos_iff.2 h0;obtain⟨bb,off,hA,_,_⟩:=h.at (fG hp);subst hA;have:=Tryz.slices_Contains_string bb off l.length c (l.map fun t=>(⟨t.toArray⟩:ByteArray)) x w (by simp) (by omega) (fun j hj=>by
   rw [List.length_map] at hj;obtain⟨b',o',hA',_,hc⟩:=h.at (fG hj);injection hA' with hA';injection hA' with e1 e2;subst e1 e2;rw [hc];simp [List.getD,hj])
  refine this.mono fun e w' ⟨he,hw⟩=>⟨?_,hw⟩;rw [he];refine gq ?_;rw [List.take_of_length_le (by simp),Bool.eq_iff_iff,Lib.containsS_iff,List.contains_iff_mem,List.mem_map];constructor
  ·rintro⟨t,ht,rfl⟩;rw [jX];exact ht
  ·intro ht;exact⟨_,ht,oK x⟩
theorem et{l:List af}{x:ByteArray}{r:Bool}(hr:Hid (l.contains (ab x)=r))(w:World)(A:Option Addr)(c:Nat)(h:ar w A (l.map aX))(hl:l.length≤1000000):
 Calls Tryz.prog 69 #[.slice A l.length c,.string x] w fun e w'=>e=.returned (.bool r)∧w'=w:=by rw [←hr.out];exact rZ w A c l x h hl
theorem vS(w:World)(A:Option Addr)(c:Nat)(l:List af)(h:ar w A (l.map aX))(hl:l.length≤1000000)(h0:A=none→c=0):
 Calls Tryz.prog 106 #[.slice A l.length c] w fun e w'=>∃ v',e=.returned v'∧bo w' w.heap.size v' l∧Sm No w w':=by
 cases A with
 |none=>
  have hn:l=[]:=by
   rcases List.eq_nil_or_concat l with e|⟨a,b,e⟩
   ·exact e
   ·have hp:0 < l.length:=by rw [e];simp
    obtain⟨bb,off,hA,_⟩:=h.at (fG hp)
    cases hA
  subst hn;exact(Tryz.slices_Clone_string_nil 0 c w).mono fun e w' ⟨he,hw⟩=>⟨_,he,World.ownsRow_nil _ _ _ 1,hw ▸ Sm.refl _ _⟩
 |some a=>
  by_cases hn:l=[]
  ·subst hn;exact(Tryz.slices_Clone_string_zero a c w).mono fun e w' ⟨v',he,hO,_,hb⟩=>⟨v',he,hO,Sm.of_below hb No⟩
  ·have hp:0 < l.length:=List.length_pos_iff.2 hn;obtain⟨bb,off,hA,_,_⟩:=h.at (fG hp);injection hA with hA;subst hA;refine(Tryz.slices_Clone_string bb off l.length c (l.map fun t=>(⟨t.toArray⟩:ByteArray)) w (by simp) (by omega) (fun j hj=>by
    rw [List.length_map] at hj;obtain⟨b',o',hA',_,hc⟩:=h.at (fG hj);injection hA' with hA';injection hA' with e1 e2;subst e1 e2;rw [hc];simp [List.getD,hj])).mono fun e w' ⟨v',he,hO,_,hb⟩=>⟨v',he,?_,Sm.of_below hb No⟩
   rw [List.take_of_length_le (by simp),List.map_map] at hO;exact hO
theorem Em(s:ByteArray)(hs:s.size≤1000000)(w:World):
 Calls Tryz.prog 101 #[.string s,.string ⟨#[47,42]⟩] w fun e w'=>e=.returned (.tuple #[.string (if cS (ab s)=true then ⟨((ab s).take (s.size-2)).toArray⟩ else s),.bool (cS (ab s))])∧w'=w:=by
 refine(Tryz.strings_CutSuffix s ⟨#[47,42]⟩ w (by omega)).mono fun e w' ⟨he,hw⟩=>⟨?_,hw⟩;rw [he];have hh:Lib.hasSuffix s.data.toList [47,42]=cS (ab s):=by
  rw [Bool.eq_iff_iff,jl];unfold Lib.hasSuffix;rw [List.isSuffixOf_iff_suffix];exact⟨fun ⟨q,hq⟩=>⟨q,hq.symm⟩,fun ⟨q,hq⟩=>⟨q,hq.symm⟩⟩
 have ht:(⟨(Lib.trimSuffix s.data.toList [47,42]).toArray⟩:ByteArray)=if cS (ab s)=true then ⟨((ab s).take (s.size-2)).toArray⟩ else s:=by
  unfold Lib.trimSuffix;rw [hh];split
  ·rw [←ae];rfl
  ·exact oK s
 rw [show (⟨#[47,42]⟩:ByteArray).data.toList=[47,42] from rfl,ht,hh]
theorem kU(w:World)(B:Nat)(v:Value)(l:List af)(h:bo w B v l)(hl:l.length≤1000000):
 Calls Tryz.prog 120 #[v] w fun e w'=>e=.returned (.tuple #[])∧bo w' B v (eb l)∧Sm (fun b=>v.ownBlock=some b) w w':=by
 by_cases hn:l=[]
 ·subst hn;rcases aR h with ⟨rfl,_,_⟩|⟨g,cap,rfl,_⟩
  ·exact(Tryz.slices_Sort_string_none none 0 w).mono fun e w' ⟨he,hw⟩=>⟨he,by rw [hw];simpa [eb] using h,hw ▸ Sm.refl _ _⟩
  ·exact(Tryz.slices_Sort_string_none _ cap w).mono fun e w' ⟨he,hw⟩=>⟨he,by rw [hw];simpa [eb] using h,hw ▸ Sm.refl _ _⟩
 ·have h0:=h;rcases h0.2 with ⟨_,h1⟩|⟨g,cap,cur,rfl,hg,hh,hnc,hcm,hcs,ht⟩
  ·exact absurd (List.eq_nil_of_length_eq_zero h1) hn
  ·have hlen:(eb l).length=l.length:=by simp [eb]
   refine(Tryz.slices_Sort_string g 0 cap l w (holds_of_block hh (by rw [Nat.mul_one] at ht;exact ht)) (Array.getElem?_eq_some_iff.1 hh).1 (by omega)).mono fun e w' ⟨he,n,os,hw⟩=>⟨he,?_,?_⟩
   ·rw [hw];have:=ownsRow_sorted (os:=os) (n:=n) hlen hg hh hnc hcm hcs;unfold bo;rw [hlen];exact this
   ·rw [hw];exact(Sm.refl _ w).grown (grownBy_sorted _) (fun k hk=>Or.inl hk)
theorem tY(l:List af):(Lib.compact l).length≤l.length:=by
 unfold Lib.compact Lib.compactUpTo;rw [List.length_map];refine Nat.le_trans (List.length_filter_le _ _) ?_;simp
theorem gm(w:World)(B:Nat)(v:Value)(l:List af)(h:bo w B v l)(hl:l.length≤1000000):
 Calls Tryz.prog 121 #[v] w fun e w'=>∃ v',e=.returned v'∧bo w' B v' (Lib.compact l)∧Sm (fun b=>v.ownBlock=some b) w w':=by
 by_cases hn:l=[]
 ·subst hn;rcases aR h with ⟨rfl,_,_⟩|⟨g,cap,rfl,_⟩
  ·exact(Tryz.slices_Compact_string_empty none 0 w).mono fun e w' ⟨he,hw⟩=>⟨_,he,by rw [hw];exact h,hw ▸ Sm.refl _ _⟩
  ·exact(Tryz.slices_Compact_string_empty _ cap w).mono fun e w' ⟨he,hw⟩=>⟨_,he,by rw [hw];exact h,hw ▸ Sm.refl _ _⟩
 ·have h0:=h;rcases h0.2 with ⟨_,h1⟩|⟨g,cap,cur,rfl,hg,hh,hnc,hcm,hcs,ht⟩
  ·exact absurd (List.eq_nil_of_length_eq_zero h1) hn
  ·have hcl:=tY l;refine(Tryz.slices_Compact_string g 0 cap l w (holds_of_block hh (by rw [Nat.mul_one] at ht;exact ht)) (by omega) hnc).mono fun e w' ⟨he,n,hw⟩=>⟨_,he,?_,?_⟩
   ·have hlen:(Lib.compact l++List.replicate (l.length-(Lib.compact l).length) ([]:af)).length=l.length:=by simp;omega
    have h2:=ownsRow_sorted (os:=#[]) (n:=n) hlen hg hh hnc hcm hcs;have e0:Sort.grow (Sort.putRow encStr (Sort.ahead w n) g 0 (Lib.compact l++List.replicate (l.length-(Lib.compact l).length) ([]:af)).toArray) #[]=w':=by rw [hw];exact Sort.grow_empty _
    rw [e0] at h2;rcases h2.2 with ⟨e1,_⟩|⟨g',cap',cur',e1,hg',hh',hnc',hcm',hcs',ht'⟩
    ·cases e1
    ·injection e1 with e1 e2 e3;injection e1 with e1;injection e1 with e1;subst e1 e3;refine⟨by simp,Or.inr ⟨g,cap,cur',rfl,hg',hh',by omega,hcm',hcs',?_⟩⟩;rw [Nat.mul_one] at ht' ⊢;have:(cur'.toList.take l.length).take (Lib.compact l).length=cur'.toList.take (Lib.compact l).length:=by rw [List.take_take,Nat.min_eq_left hcl]
     rw [←this,ht',List.map_append];exact List.take_left' (by simp)
   ·have:=(Sm.refl (fun b=>(Value.slice (some ⟨g,0,none⟩) l.length cap).ownBlock=some b) w).grown (grownBy_sorted (n:=n) (os:=#[]) (g:=g) (Lib.compact l++List.replicate (l.length-(Lib.compact l).length) ([]:af)).toArray) (fun k hk=>Or.inl hk);rw [hw];rw [Sort.grow_empty] at this;exact this
theorem CS(s:ByteArray)(hs:s.size≤1000000)(w:World):
 Calls Tryz.prog 103 #[.string s] w fun e w'=>e=.returned (.bool (!bP (ab s)))∧Sm No w w':=by
 obtain⟨f,hf⟩:=Iu (bP (ab s));rw [hf];have HF:=ns hf;clear hf;go_in;go_wp2_with fail;refine(dq HF hs _).mono ?_;rintro e w' ⟨rfl,rfl⟩;go_wp2_with fail;go_ret;exact⟨rfl,Sm.refl _ _⟩
def vi(w:World)(g:Nat)(x:Lt):Prop:=∃ A c,Bk w g 169 #[.int .i64 x.id,.slice A x.ms.length c]∧ar w A (x.ms.map aX)∧x.ms.length≤1000000
theorem vi.no{w w':World}{g:Nat}{x:Lt}(h:vi w g x)(hs:Sm No w w'):vi w' g x:=by
 obtain⟨A,c,h1,h2,h3⟩:=h;exact⟨A,c,h1.sm hs (fun h=>h),h2.no hs,h3⟩
theorem Ex(s:ByteArray)(w:World)(g:Nat)(x:Lt)(hx:vi w g x):
 Calls Tryz.prog 105 #[.string s,.pointer (some ⟨g,0,none⟩)] w fun e w'=>e=.returned (.bool (x.ms.contains (ab s)))∧Sm No w w':=by
 obtain⟨A,c,hb,hR,hl⟩:=hx;have c1:=hb.at 1 (v:=.slice A x.ms.length c) rfl;obtain⟨r,hr⟩:=Iu (x.ms.contains (ab s));rw [hr];have HC:=ns hr;have HR:=ns (BT hR hb);clear hR hb hr;go_in;go_wp2_with fail;refine(et HC _ A c HR.out.1 hl).mono ?_;rintro e w' ⟨rfl,rfl⟩;go_wp2_with fail;go_ret;exact⟨rfl,Sm.refl _ _⟩
def Ie(w:World)(l:List af)(p:af→Bool)(i:Value)(wr:World):Prop:=
 ∃ k:Nat,k≤l.length∧i=.int .i64 k∧Sm No w wr∧∀ x∈l.take k,p x=false
theorem sT{l:List af}{p:af→Bool}{k:Nat}(h:∀ x∈l.take k,p x=false)(hk:¬k < l.length):l.any p=false:=by
 rw [List.any_eq_false];intro x hx;rw [List.take_of_length_le (by omega)] at h;simpa using h x hx
theorem qy{l:List af}{p:af→Bool}{k:Nat}(h:∀ x∈l.take k,p x=false)(hk:k < l.length)(hp:p l[k]=false):∀ x∈l.take (k+1),p x=false:=by
 intro x hx;rw [List.take_succ_eq_append_getElem hk,List.mem_append,List.mem_singleton] at hx;rcases hx with hx|rfl
 ·exact h x hx
 ·exact hp
theorem DO(w:World)(A:Option Addr)(c:Nat)(l:List af)(hA:ar w A (l.map aX))(hl:l.length≤1000000)(hs:∀ t∈l,t.length≤1000000):
 Calls Tryz.prog 146 #[.slice A l.length c,.func (.func 103) #[] #[]] w
  fun e w'=>∃ r:Int,e=.returned (.int .i64 r)∧(decide (0≤r)=l.any (fun m=> !bP m))∧Sm No w w':=by
 obtain⟨p,hp⟩:∃ p:af→Bool,(fun m=> !bP m)=p:=⟨_,rfl⟩;rw [hp];have HQ:=ns hp;have HA:=ns (BT hA (BT hs True.intro));clear hA hs hp;go_in;go_wp2_with fail
 go_loopw [8] (fun i wr=>Ie w l p i wr) (fun i _=>l.length-(intOf i).toNat)
 case atStart=>exact⟨0,Nat.zero_le _,rfl,Sm.refl _ _,fun x h=>by simp at h⟩
 case round=>
  obtain⟨k,hk,rfl,hsm,hno⟩:=hrel;have HS:=ns (BT hsm hno);clear hsm hno;by_cases hlt:k < l.length
  ·obtain⟨bb,off,hAe,hbb,r0⟩:=(HA.out.1.no HS.out.1).at (fG hlt);subst hAe;have s0:=HA.out.2.1 _ (List.getElem_mem hlt);obtain⟨s,hsk⟩:=Iu ((⟨l[k].toArray⟩:ByteArray));have hts:ab s=l[k]:=by rw [←hsk,jX]
   rw [hsk] at r0;have hsz:s.size≤1000000:=by rw [←ae,hts];exact s0
   have k1:(0:Int)≤(k:Int):=by omega
   have k2:(k:Int) < (l.length:Int):=by omega
   obtain⟨f,hf⟩:=Iu (p l[k]);have HD:=CS s hsz wr;rw [hts] at HD;have hpk:(fun m=> !bP m) l[k]=p l[k]:=by rw [HQ.out]
   dsimp only at hpk;rw [hpk,hf] at HD;have HF:=ns (BT hf HD);clear hf hsk hts HD s0 hpk;go_wp2_with fail;refine HF.out.2.mono ?_;rintro e w1 ⟨rfl,hs1⟩;have H1:=ns (HS.out.1.tt hs1);clear hs1
   cases f
   ·have hno:=qy HS.out.2 hlt HF.out.1;have HN:=ns hno;clear hno;go_wp2_with fail;exact⟨⟨k+1,by omega,by go_num,H1.out,HN.out⟩,by simp [intOf];omega⟩
   ·have hyes:l.any p=true:=List.any_eq_true.2 ⟨l[k],List.getElem_mem hlt,HF.out.1⟩;have HN:=ns hyes;clear hyes;go_wp2_with fail;go_ret;exact⟨k,rfl,by rw [HN.out];simp,H1.out⟩
  ·have hno:=sT HS.out.2 hlt;have HN:=ns hno;clear hno;go_wp2_with fail;go_ret;exact⟨-1,rfl,by rw [HN.out];rfl,HS.out.1⟩
theorem EB(w:World)(A:Option Addr)(c:Nat)(l:List af)(hA:ar w A (l.map aX))(hl:l.length≤1000000)(hs:∀ t∈l,t.length≤1000000):
 Calls Tryz.prog 102 #[.slice A l.length c,.func (.func 103) #[] #[]] w
  fun e w'=>e=.returned (.bool (l.any (fun m=> !bP m)))∧Sm No w w':=by
 have HI0:=DO w A c l hA hl hs;obtain⟨p,hp⟩:∃ p:af→Bool,(fun m=> !bP m)=p:=⟨_,rfl⟩;rw [hp] at HI0 ⊢;have HI:=ns HI0;clear hA hs hp HI0;go_in;go_wp2_with fail;refine HI.out.mono ?_;rintro e w1 ⟨r,rfl,hr,hs1⟩;have HR:=ns (BT hr hs1);clear hr hs1;go_wp2_with fail
 all_goals
  go_ret;exact⟨gq (by rw [←HR.out.1]),HR.out.2⟩
theorem DA(w:World)(A:Option Addr)(c:Nat)(l:List af)(g:Nat)(x:Lt)(hx:vi w g x)(hA:ar w A (l.map aX))(hl:l.length≤1000000)(hs:∀ t∈l,t.length≤1000000):
 Calls Tryz.prog 146 #[.slice A l.length c,.func (.func 105) #[] #[.pointer (some ⟨g,0,none⟩)]] w
  fun e w'=>∃ r:Int,e=.returned (.int .i64 r)∧(decide (0≤r)=l.any (fun m=>x.ms.contains m))∧Sm No w w':=by
 obtain⟨p,hp⟩:∃ p:af→Bool,(fun m=>x.ms.contains m)=p:=⟨_,rfl⟩;rw [hp];have HQ:=ns hp;have HA:=ns (BT hA (BT hs hx));clear hA hs hp hx;go_in;go_wp2_with fail
 go_loopw [8] (fun i wr=>Ie w l p i wr) (fun i _=>l.length-(intOf i).toNat)
 case atStart=>exact⟨0,Nat.zero_le _,rfl,Sm.refl _ _,fun x h=>by simp at h⟩
 case round=>
  obtain⟨k,hk,rfl,hsm,hno⟩:=hrel;have HS:=ns (BT hsm hno);clear hsm hno;by_cases hlt:k < l.length
  ·obtain⟨bb,off,hAe,hbb,r0⟩:=(HA.out.1.no HS.out.1).at (fG hlt);subst hAe;have s0:=HA.out.2.1 _ (List.getElem_mem hlt);obtain⟨s,hsk⟩:=Iu ((⟨l[k].toArray⟩:ByteArray));have hts:ab s=l[k]:=by rw [←hsk,jX]
   rw [hsk] at r0;have hsz:s.size≤1000000:=by rw [←ae,hts];exact s0
   have k1:(0:Int)≤(k:Int):=by omega
   have k2:(k:Int) < (l.length:Int):=by omega
   obtain⟨f,hf⟩:=Iu (p l[k]);have HD:=Ex s wr g x (HA.out.2.2.no HS.out.1);rw [hts] at HD;have hpk:(fun m=>x.ms.contains m) l[k]=p l[k]:=by rw [HQ.out]
   dsimp only at hpk;rw [hpk,hf] at HD;have HF:=ns (BT hf HD);clear hf hsk hts HD s0 hpk;go_wp2_with fail;refine HF.out.2.mono ?_;rintro e w1 ⟨rfl,hs1⟩;have H1:=ns (HS.out.1.tt hs1);clear hs1
   cases f
   ·have hno:=qy HS.out.2 hlt HF.out.1;have HN:=ns hno;clear hno;go_wp2_with fail;exact⟨⟨k+1,by omega,by go_num,H1.out,HN.out⟩,by simp [intOf];omega⟩
   ·have hyes:l.any p=true:=List.any_eq_true.2 ⟨l[k],List.getElem_mem hlt,HF.out.1⟩;have HN:=ns hyes;clear hyes;go_wp2_with fail;go_ret;exact⟨k,rfl,by rw [HN.out];simp,H1.out⟩
  ·have hno:=sT HS.out.2 hlt;have HN:=ns hno;clear hno;go_wp2_with fail;go_ret;exact⟨-1,rfl,by rw [HN.out];rfl,HS.out.1⟩
theorem DG(w:World)(A:Option Addr)(c:Nat)(l:List af)(g:Nat)(x:Lt)(hx:vi w g x)(hA:ar w A (l.map aX))(hl:l.length≤1000000)(hs:∀ t∈l,t.length≤1000000):
 Calls Tryz.prog 102 #[.slice A l.length c,.func (.func 105) #[] #[.pointer (some ⟨g,0,none⟩)]] w
  fun e w'=>e=.returned (.bool (l.any (fun m=>x.ms.contains m)))∧Sm No w w':=by
 have HI0:=DA w A c l g x hx hA hl hs;obtain⟨p,hp⟩:∃ p:af→Bool,(fun m=>x.ms.contains m)=p:=⟨_,rfl⟩;rw [hp] at HI0 ⊢;have HI:=ns HI0;clear hA hs hp HI0 hx;go_in;go_wp2_with fail;refine HI.out.mono ?_;rintro e w1 ⟨r,rfl,hr,hs1⟩;have HR:=ns (BT hr hs1);clear hr hs1;go_wp2_with fail
 all_goals
  go_ret;exact⟨gq (by rw [←HR.out.1]),HR.out.2⟩
def iL(w:World)(v:Value)(L:List Lt):Prop:=
 ∃ l:List (Lt × Value),l.map Prod.fst=L∧w.ownsRow 0 169 2 v l.length (gE l)∧(∀ x∈l,bo w 0 x.2 x.1.ms)∧∀ x∈L,x.ms.length≤1000000
theorem iL.no{w w':World}{v:Value}{L:List Lt}(h:iL w v L)(hs:Sm No w w'):iL w' v L:=by
 obtain⟨l,h1,h2,h3,h4⟩:=h;exact⟨l,h1,aa h2 hs (fun _ _ h=>h),fun x hx=>(h3 x hx).no hs,h4⟩
theorem iL.form{w:World}{v:Value}{L:List Lt}(h:iL w v L):∃ A c,v=.slice A L.length c∧(L≠[]→∃ g,A=some ⟨g,0,none⟩):=by
 obtain⟨l,rfl,h2,_⟩:=h;rcases aR h2 with ⟨rfl,h0,_⟩|⟨g,cap,rfl,_⟩
 ·have:l=[]:=List.eq_nil_of_length_eq_zero h0;subst this;exact⟨none,0,rfl,fun h=>absurd rfl h⟩
 ·exact⟨some ⟨g,0,none⟩,cap,by simp,fun _=>⟨g,rfl⟩⟩
theorem iL.get{w:World}{A:Option Addr}{n c:Nat}{L:List Lt}(h:iL w (.slice A n c) L){k:Nat}(hk:k < L.length):
 ∃ g A2 c2,A=some ⟨g,0,none⟩∧g < w.heap.size∧w.cell? ⟨g,k * 2,none⟩=some (.int .i64 L[k].id)∧w.cell? ⟨g,k * 2+1,none⟩=some (.slice A2 L[k].ms.length c2)∧ar w A2 (L[k].ms.map aX)∧L[k].ms.length≤1000000∧(A2=none→c2=0):=by
 obtain⟨l,rfl,h2,h3,h4⟩:=h;have hk':k < l.length:=by simpa using hk
 rcases aR h2 with ⟨_,h0,_⟩|⟨g,cap,hv,_,_,hb,_,hx,_⟩
 ·omega
 ·injection hv with hv;subst hv;obtain⟨e1,e2⟩:=zQ hk';have hO:=h3 l[k] (List.getElem_mem hk');obtain⟨A2,c2,hv2,hR,_,hn⟩:=ak hO;have eL:(l.map Prod.fst)[k]=l[k].1:=by simp
  refine⟨g,A2,c2,rfl,hb,?_,?_,?_,?_,hn⟩
  ·rw [eL];exact hx _ _ e1
  ·rw [eL,←hv2];exact hx _ _ e2
  ·rw [eL];exact hR
  ·exact h4 _ (List.getElem_mem hk)
def G6:Option Int→Value
 |some i=>.tuple #[.int .i64 i,.bool true]
 |none=>.tuple #[.int .i64 0,.bool false]
def Hb(w:World)(L:List Lt)(m:af)(i:Value)(wr:World):Prop:=
 ∃ k:Nat,k≤L.length∧i=.int .i64 k∧Sm No w wr∧uU L m=uU (L.drop k) m
theorem G2{L:List Lt}{k:Nat}(m:af)(h:k < L.length):uU (L.drop k) m=if (L[k].ms.isEmpty||L[k].ms.contains m)=true then some L[k].id else uU (L.drop (k+1)) m:=by
 rw [List.drop_eq_getElem_cons h,uU]
theorem Fz{L:List Lt}{k:Nat}(m:af)(h:¬k < L.length):uU (L.drop k) m=none:=by
 rw [List.drop_eq_nil_of_le (by omega)];rfl
theorem us(w:World)(v:Value)(L:List Lt)(m:ByteArray)(h:iL w v L)(hl:L.length≤1000000):
 Calls Tryz.prog 119 #[v,.string m] w fun e w'=>e=.returned (G6 (uU L (ab m)))∧Sm No w w':=by
 obtain⟨A,c,rfl,_⟩:=h.form;obtain⟨R,hR⟩:=Iu (uU L (ab m));rw [hR];have HA:=ns (BT h hR);clear h hR;go_in;go_wp2_with fail
 go_loopw [10] (fun i wr=>Hb w L (ab m) i wr) (fun i _=>L.length-(intOf i).toNat)
 case atStart=>exact⟨0,Nat.zero_le _,rfl,Sm.refl _ _,rfl⟩
 case round=>
  obtain⟨k,hk,rfl,hsm,hof⟩:=hrel;have HS:=ns (BT hsm hof);clear hsm hof;by_cases hlt:k < L.length
  ·obtain⟨g,A2,c2,hA,hg,r0,r1,hR,hl2,_⟩:=(HA.out.1.no HS.out.1).get hlt;subst hA;have hat:=G2 (ab m) hlt;obtain⟨id,hid⟩:=Iu (L[k].id);obtain⟨ms,hms⟩:=Iu (L[k].ms);rw [hid] at r0 hat;rw [hms] at r1 hR hl2 hat;obtain⟨b,hb⟩:=Iu (ms.contains (ab m));rw [hb] at hat;have HB:=ns hb;have hs2:=(Sm.refl No wr).alloc (.cells #[.int .i64 id,.slice A2 ms.length c2] 169);have HM:=ns (BT hat (BT (hR.no hs2) (HS.out.1.tt hs2)));have k1:(0:Int)≤(k:Int):=by omega
   have k2:(k:Int) < (L.length:Int):=by omega
   clear hid hms hat hR hb hs2;by_cases hm0:ms=[]
   ·subst hm0;have e0:((([]:List af).length:Int)==0)=true:=rfl;have hRR:R=some id:=by rw [←HA.out.2,HS.out.2,HM.out.1];rfl
    subst hRR;go_wp2_with fail;go_ret2;exact⟨rfl,HM.out.2.2⟩
   ·have e0:((ms.length:Int)==0)=false:=by simp;exact hm0
    have hE:ms.isEmpty=false:=by cases ms with
     |nil=>exact absurd rfl hm0
     |cons a r=>rfl
    have HE:=ns hE;clear hE hm0;go_wp2_with fail;refine(et HB _ A2 c2 HM.out.2.1 hl2).mono ?_;rintro e w2 ⟨rfl,rfl⟩
    cases b
    ·have hof:uU L (ab m)=uU (L.drop (k+1)) (ab m):=by rw [HS.out.2,HM.out.1,HE.out];rfl
     have HO:=ns hof;clear hof;go_wp2_with fail;exact⟨⟨k+1,by omega,by go_num,HM.out.2.2,HO.out⟩,by simp [intOf];omega⟩
    ·have hRR:R=some id:=by rw [←HA.out.2,HS.out.2,HM.out.1,HE.out];rfl
     subst hRR;go_wp2_with fail;go_ret2;exact⟨rfl,HM.out.2.2⟩
  ·have hRR:R=none:=by rw [←HA.out.2,HS.out.2,Fz _ hlt]
   subst hRR;go_wp2_with fail;go_ret2;exact⟨rfl,HS.out.1⟩
theorem BM(w:World):∃ O:Nat→Prop,bj (((w.alloc (.map #[] 0)).alloc (.map #[] 0)).alloc (.cells #[.map (some w.heap.size),.map (some (w.heap.size+1)),.int .i64 0] 164)) O (w.heap.size+2) []∧
 Sm No w (((w.alloc (.map #[] 0)).alloc (.map #[] 0)).alloc (.cells #[.map (some w.heap.size),.map (some (w.heap.size+1)),.int .i64 0] 164))∧∀ b,O b→w.heap.size≤b:=by
 have h1:=dF.made w;have hs1:=(Sm.refl No w).alloc (.map #[] 0);have h2:=dF.made (w.alloc (.map #[] 0));have hs2:=(Sm.refl No (w.alloc (.map #[] 0))).alloc (.map #[] 0);have hb:=Bk.newAt ((w.alloc (.map #[] 0)).alloc (.map #[] 0)) 164 #[.map (some w.heap.size),.map (some (w.heap.size+1)),.int .i64 0] (g:=w.heap.size+2) (by simp);have hs3:=(Sm.refl No ((w.alloc (.map #[] 0)).alloc (.map #[] 0))).alloc (.cells #[.map (some w.heap.size),.map (some (w.heap.size+1)),.int .i64 0] 164);have e1:(w.alloc (.map #[] 0)).heap.size=w.heap.size+1:=by simp
 rw [e1] at h2;refine⟨fun b=>w.heap.size≤b∧b≤w.heap.size+2,⟨w.heap.size,w.heap.size+1,fun _ _=>mP,fun _ _=>[],hb,(h1.sm hs2 (fun h=>h)).sm hs3 (fun h=>h),h2.sm hs3 (fun h=>h),?_,fun _ _=>rfl,?_,?_,?_,?_,?_⟩,(hs1.tt hs2).tt hs3,fun b hb=>hb.1⟩
 ·exact⟨fun _ _=>World.ownsRow_nil _ _ _ _,fun _ _ _=>rfl,fun _ _ x hx=>(by cases hx),fun _ _ _ _ _=>Or.inl rfl,fun _ _ g hg=>(by cases hg),fun _ _ x hx=>(by cases hx)⟩
 ·exact⟨by omega,by omega⟩
 ·exact⟨by omega,by omega⟩
 ·exact⟨by omega,by omega⟩
 ·omega
 ·intro b hb;simp;omega
theorem EH(w:World):Calls Tryz.prog 53 #[] w fun e w'=>∃ r O,e=.returned (.pointer (some ⟨r,0,none⟩))∧bj w' O r []∧Sm No w w'∧∀ b,O b→w.heap.size≤b:=by
 have hmm:= @run_makeMap Tryz.prog;obtain⟨O,hO⟩:=BM w;have HO:=ns hO;clear hO;go_in;go_wp2_with fail;go_ret;exact⟨_,O,rfl,HO.out⟩
theorem IA(w:World)(g:Addr)(l c:Nat):(binOp .neq 167 (.slice (some g) l c) (.slice none 0 0)).run Tryz.prog w=.ok (.bool true) w:=run_neq_slice_nil w _ _ (some g) l c Tryz.underlying167
theorem IK(w:World):(binOp .neq 167 (.slice none 0 0) (.slice none 0 0)).run Tryz.prog w=.ok (.bool false) w:=run_neq_slice_nil w _ _ none 0 0 Tryz.underlying167
theorem IL(w:World)(g:Addr)(l c:Nat):(binOp .eql 167 (.slice (some g) l c) (.slice none 0 0)).run Tryz.prog w=.ok (.bool false) w:=Lib.run_eql_slice_nil w _ _ (some g) l c 0 0 Tryz.underlying167
theorem Iv(w:World):(binOp .eql 167 (.slice none 0 0) (.slice none 0 0)).run Tryz.prog w=.ok (.bool true) w:=Lib.run_eql_slice_nil w _ _ none 0 0 0 0 Tryz.underlying167
def D6(w:World)(L:List Lt)(path:af)(e:Ending)(w':World):Prop:=
 ∃ v rest,e=.returned (.tuple #[v,gj rest])∧Sm No w w'∧((jO L path=none∧v=mP∧rest=[])∨∃ k,jO L path=some (k,rest)∧iN L k≠[]∧iL w v (iN L k))
theorem bj.at{w:World}{O:Nat→Prop}{r:Nat}{L:List Lt}(h:bj w O r L)(hms:∀ x∈L,x.ms.length≤1000000):∃ (ba bu:Nat) (f:Bool→af→Value),Bk w r 164 #[.map (some ba),.map (some bu),.int .i64 L.length]∧dF w ba L.length (f false)∧dF w bu L.length (f true)∧
 ∀ d q,iL w (f d q) (iN L (d,q))∧(iN L (d,q)=[]→f d q=mP):=by
 obtain⟨ba,bu,f,l,h1,h2,h3,h4,h5,_⟩:=h;refine⟨ba,bu,f,h1,h2,h3,fun d q=>⟨⟨l d q,h5 d q,h4.own d q,h4.ms d q,fun x hx=>hms x (List.mem_filter.1 hx).1⟩,fun e=>h4.nil d q ?_⟩⟩;rw [←h5] at e;exact List.map_eq_nil_iff.1 e
def Fe(w:World)(L:List Lt)(path:af)(i:Value)(wr:World):Prop:=
 ∃ n:Nat,n≤path.length∧i=.int .i64 ((n:Int)-1)∧Sm No w wr∧gZ L path path.length=gZ L path n
theorem GD(s:ByteArray)(k:Nat)(h:k < s.size):(ab s)[k]?=some s[k]:=by
 unfold ab;rw [List.getElem?_eq_getElem (by simpa using h)];rfl
theorem B7(w:World)(O:Nat→Prop)(r:Nat)(L:List Lt)(path:ByteArray)(h:bj w O r L)(hms:∀ x∈L,x.ms.length≤1000000)(hp:path.size≤1000000):
 Calls Tryz.prog 118 #[.pointer (some ⟨r,0,none⟩),.string path] w (D6 w L (ab path)):=by
 obtain⟨ba,bu,f,hb,ha,hu,hf⟩:=h.at hms;have nS:=IA;have nN:=IK;have c0:=hb.at 0 (v:=.map (some ba)) rfl;have hl0:=ha.look path hp;have HA:=ns (BT hb (BT ha (BT hu hf)));obtain⟨hf0,hn0⟩:=hf false (ab path);clear hb ha hu hf h;by_cases he:iN L (false,ab path)=[]
 ·rw [hn0 he] at hl0;unfold mP at hl0;have hP:jO L (ab path)=(gZ L (ab path) (ab path).length).map (fun i=>((true,(ab path).take (i+1)),(ab path).drop (i+1))):=by
   unfold jO;rw [he];rfl
  have HP:=ns (BT hP he);clear hP he hf0 hn0;go_in;go_wp2_with fail
  go_loopw [7] (fun i wr=>Fe w L (ab path) i wr) (fun i _=>(intOf i+1).toNat)
  case atStart=>exact⟨path.size,by rw [ae];exact Nat.le_refl _,rfl,Sm.refl _ _,by rw [ae]⟩
  case round=>
   obtain⟨n,hn,rfl,hsm,hd⟩:=hrel;rw [ae] at hn;have HS:=ns (BT hsm hd);have c1:wr.cell? ⟨r,1,none⟩=some (.map (some bu)):=(HA.out.1.sm hsm (fun h=>h)).at 1 rfl;have hu:=HA.out.2.2.1.sm hsm (fun h=>h);clear hsm hd
   cases n with
   |zero=>
    have hnone:jO L (ab path)=none:=by rw [HP.out.1,HS.out.2];rfl
    have HN:=ns hnone;have k0:((0:Nat):Int)-1= -1:=by omega
    clear hnone hu;go_wp2_with fail;go_ret2;exact⟨mP,[],rfl,HS.out.1,Or.inl ⟨HN.out,rfl,rfl⟩⟩
   |succ m=>
    have hlt:m < path.size:=by omega
    have hd:=GD path m hlt;obtain⟨ch,hc⟩:=Iu (path[m]);rw [hc] at hd;have k0:((m+1:Nat):Int)-1=(m:Int):=by omega
    have kA:(0:Int)≤(m:Int):=by omega
    have kB:(m:Int) < (path.size:Int):=by omega
    rw [k0];by_cases hc1:ch=47
    ·have ht:((ch.toNat:Int)==47)=true:=by rw [hc1];rfl
     have hq:ab (path.extract 0 (m+1))=(ab path).take (m+1):=by unfold ab;rw [Lib.extract_data];simp
     have hl1:∀ nq,(Instr.lookup 162 (.map (some bu)) (.string (path.extract 0 (m+1))) false).run Tryz.prog (wr.drewN nq)=.ok (f true ((ab path).take (m+1))) (wr.drewN nq):=fun nq=>by
      rw [←hq];exact(show dF (wr.drewN nq) bu L.length (f true) from hu.sm ((Sm.refl No wr).drewN nq) (fun h=>h)).look _ (by simp;omega)
     obtain⟨hf1,hn1⟩:=HA.out.2.2.2 true ((ab path).take (m+1));by_cases hw:iN L (true,(ab path).take (m+1))=[]
     ·rw [hn1 hw] at hl1;unfold mP at hl1;go_wp2_with fail;have hno:gZ L (ab path) (m+1)=gZ L (ab path) m:=by rw [gZ,if_neg];intro hc;unfold GY at hc;rw [hw] at hc;exact absurd hc.2 (by simp)
      have HN:=ns hno;clear hno;go_quiet (fail);go_wp2_with fail;exact⟨⟨m,by rw [ae];omega,rfl,HS.out.1.drewN _,by rw [HS.out.2,HN.out]⟩,by simp [intOf]⟩
     ·obtain⟨A,c,hv,hA⟩:=hf1.form;obtain⟨g,rfl⟩:=hA hw;rw [hv] at hl1;go_wp2_with fail;go_quiet (fail);have hyes:gZ L (ab path) (m+1)=some m:=by
       rw [gZ,if_pos];refine⟨by rw [hd,hc1],?_⟩;unfold GY;simpa using hw
      have hr:(⟨((ab path).drop (m+1)).toArray⟩:ByteArray)=path.extract (m+1) path.size:=by
       rw [←oK (path.extract (m+1) path.size)];congr 2;unfold ab;rw [Lib.extract_data,List.take_of_length_le (by simp)]
      have HN:=ns (BT hyes (BT hr (BT hf1 (BT hv hw))));clear hyes hr hf1 hn1 hv hw;go_wp2_with fail;go_quiet (fail);go_wp2_with fail;go_ret2;have hfin:iL w (.slice (some ⟨g,0,none⟩) (iN L (true,(ab path).take (m+1))).length c) (iN L (true,(ab path).take (m+1))):=by rw [←HN.out.2.2.2.1];exact HN.out.2.2.1
      refine⟨.slice (some ⟨g,0,none⟩) (iN L (true,(ab path).take (m+1))).length c,(ab path).drop (m+1),?_,(HS.out.1.drewN _).drewN _,Or.inr ⟨_,by rw [HP.out.1,HS.out.2,HN.out.1];rfl,HN.out.2.2.2.2,hfin⟩⟩;rw [gj,HN.out.2.1];rfl
    ·have ht:((ch.toNat:Int)==47)=false:=aK (n:=47) (by decide) hc1;go_wp2_with fail;have hno:gZ L (ab path) (m+1)=gZ L (ab path) m:=by rw [gZ,if_neg];intro hc';rw [hd] at hc';exact hc1 (Option.some.inj hc'.1)
     have HN:=ns hno;clear hno;go_quiet (fail);go_wp2_with fail;exact⟨⟨m,by rw [ae];omega,rfl,HS.out.1.drewN _,by rw [HS.out.2,HN.out]⟩,by simp [intOf]⟩
 ·obtain⟨A,c,hv,hA⟩:=hf0.form;obtain⟨g,rfl⟩:=hA he;rw [hv] at hl0 hf0;have hP:jO L (ab path)=some ((false,ab path),[]):=by
   unfold jO;rw [if_neg (by simpa using he)]
  have HP:=ns (BT hP (BT hf0 he));clear hP hf0 hn0 he;go_in;go_wp2_with fail;go_ret2;exact⟨_,[],rfl,Sm.refl _ _,Or.inr ⟨_,HP.out.1,HP.out.2.2,HP.out.2.1⟩⟩
def xl(w:World)(O:Nat→Prop)(r:Nat)(L:List Lt)(ba bu:Nat)(f:Bool→af→Value)(l:Bool→af→List (Lt × Value)):Prop:=
 Bk w r 164 #[.map (some ba),.map (some bu),.int .i64 L.length]∧dF w ba L.length (f false)∧dF w bu L.length (f true)∧F1 w O f l∧(∀ d q,(l d q).map Prod.fst=iN L (d,q))∧
  O r∧O ba∧O bu∧ba≠bu∧∀ b,O b→b < w.heap.size
theorem jN{w:World}{b n:Nat}{f:af→Value}(h:dF w b n f){cs:Array Value}{t:TypeId}(hc:w.heap[b]?=some (.cells cs t (0,0))):False:=by
 obtain⟨es,clock,he⟩:=h.isMap;rw [he] at hc
 cases hc
theorem fh{w:World}{B size n m b:Nat}{t:TypeId}{v:Value}{xs:List Value}{f:af→Value}(h:w.ownsRow B t size v n xs)(hm:dF w b m f):v.ownBlock≠some b:=fun e=>by
 obtain⟨cur,hc⟩:=ax h e;exact jN hm hc
theorem ah{w:World}{B size n b:Nat}{t t':TypeId}{v:Value}{xs:List Value}{cs:Array Value}(h:w.ownsRow B t size v n xs)(hb:Bk w b t' cs)(ht:t≠t'):v.ownBlock≠some b:=fun e=>by
 obtain⟨cur,hc⟩:=ax h e;unfold Bk at hb;rw [hb] at hc;injection hc with hc;injection hc with _ e2;exact ht e2.symm
theorem im{w:World}{b m c:Nat}{t':TypeId}{f:af→Value}{cs:Array Value}(hb:Bk w b t' cs)(hm:dF w c m f):b≠c:=by
 rintro rfl;exact jN hm hb
theorem mD{w:World}{B B' size size' n n':Nat}{t t':TypeId}{v v':Value}{xs xs':List Value}(h:w.ownsRow B t size v n xs)(h':w.ownsRow B' t' size' v' n' xs')(ht:t≠t'){b:Nat}(e:v.ownBlock=some b):v'.ownBlock≠some b:=fun e'=>by
 obtain⟨cur,hc⟩:=ax h e;obtain⟨cur',hc'⟩:=ax h' e';rw [hc] at hc';injection hc' with hc';injection hc' with _ e2;exact ht e2
def lM(f:Bool→af→Value)(wd:Bool)(q:af)(v:Value):Bool→af→Value:=fun d k=>if d=wd∧k=q then v else f d k
def BG(l:Bool→af→List (Lt × Value))(wd:Bool)(q:af)(x:Lt × Value):Bool→af→List (Lt × Value):=fun d k=>if d=wd∧k=q then l d k++[x] else l d k
theorem wl {w w4 w5 w6 w7:World} {O:Nat→Prop} {r:Nat} {L:List Lt} {ba bu mb:Nat} {f:Bool→af→Value} {l:Bool→af→List (Lt × Value)} (h:xl w O r L ba bu f l) {wd:Bool} {q:af} {x:Lt}
 (hk:eX x.pat=(wd,q)) (hmb:(if wd=true then bu else ba)=mb) {cv v':Value} (s4:Sm No w w4) (hc:bo w4 w.heap.size cv x.ms) (s5:Sm No w4 w5)
 (hv:w6.ownsRow 0 169 2 v' ((l wd q).length+1) (gE (l wd q)++[.int .i64 x.id,cv])) (s6:Sm (fun b=>(f wd q).ownBlock=some b) w5 w6) (hb:v'.ownBlock=(f wd q).ownBlock∨v'.ownBlock=some w5.heap.size)
 (hm:dF w7 mb (L.length+1) (fun k=>if k=q then v' else f wd k)) (s7:Sm (fun g=>g=mb) w6 w7):
 bj (w7.setCell ⟨r,2,none⟩ (.int .i64 ((L.length:Int)+1))) (fun b=>O b∨(w.heap.size≤b∧b < w7.heap.size)) r (L++[x])∧Sm O w (w7.setCell ⟨r,2,none⟩ (.int .i64 ((L.length:Int)+1))):=by
 obtain⟨h1,h2,h3,h4,h5,h6,h7,h8,h9,h10⟩:=h;have hbO:O mb:=by rw [←hmb];split<;>assumption
 have hmw:dF w mb L.length (f wd):=by
  rw [←hmb]
  cases wd
  ·exact h2
  ·exact h3
 have z4:=s4.size;have z5:=s5.size;have z6:=s6.size;have z7:=s7.size;have hrmb:r≠mb:=im h1 hmw;have hfr:∀ d k,(f d k).ownBlock≠some r:=fun d k=>ah (h4.own d k) h1 (by decide);have hfm:∀ d k,(f d k).ownBlock≠some mb:=fun d k=>fh (h4.own d k) hmw;have hflt:∀ d k g,(f d k).ownBlock=some g→g < w.heap.size:=fun d k g hg=>jh (h4.own d k) hg;have s8:Sm (fun b=>b=r) w7 (w7.setCell ⟨r,2,none⟩ (.int .i64 ((L.length:Int)+1))):=(Sm.refl _ w7).set1 2 _;obtain⟨w8,hw8⟩:=Iu (w7.setCell ⟨r,2,none⟩ (.int .i64 ((L.length:Int)+1)));have z8:w8.heap.size=w7.heap.size:=by rw [←hw8];simp
 have s48:Sm (fun b=>(f wd q).ownBlock=some b∨b=mb∨b=r) w4 w8:=by
  rw [←hw8];exact(((s5.any _).trans s6 (fun b _ e=>Or.inl e)).trans s7 (fun b _ e=>Or.inr (Or.inl e))).trans s8 (fun b _ e=>Or.inr (Or.inr e))
 have s18:Sm (fun b=>(f wd q).ownBlock=some b∨b=mb∨b=r) w w8:=(s4.any _).trans s48 (fun b _ e=>e);have s68:Sm (fun b=>b=mb∨b=r) w6 w8:=by
  rw [←hw8];exact(s7.mono (fun b _ e=>Or.inl e)).trans s8 (fun b _ e=>Or.inr e)
 have hbr:Bk w7 r 164 #[.map (some ba),.map (some bu),.int .i64 L.length]:=
  ((((h1.sm s4 (fun h=>h)).sm s5 (fun h=>h)).sm s6 (hfr wd q)).sm s7 hrmb)
 have hb8:Bk w8 r 164 #[.map (some ba),.map (some bu),.int .i64 ((L++[x]).length:Nat)]:=by
  rw [←hw8];exact(hbr.set 2 _).eq (by simp)
 have hv6:v'.ownBlock≠some mb∧v'.ownBlock≠some r:=by
  rcases hb with e|e
  ·rw [e];exact⟨hfm wd q,hfr wd q⟩
  ·rw [e];have:=h10 r h6;have:=h10 mb hbO;refine⟨fun e=> ?_,fun e=> ?_⟩<;>(injection e with e;omega)
 have hv8:=aa hv s68 (fun b e hS=>by
  rcases hS with rfl|rfl
  ·exact hv6.1 e
  ·exact hv6.2 e)
 have hc8:bo w8 0 cv x.ms:=bc (aa hc s48 (fun b e hS=>by
  have hge:=(World.ownsRow.lt hc _ e).1;rcases hS with h|rfl|rfl
  ·have:=hflt _ _ _ h;omega
  ·have:=h10 _ hbO;omega
  ·have:=h10 _ h6;omega)) (fun _ _=>Nat.zero_le _)
 have hO:∀ b,O b→b < w.heap.size:=h10;refine⟨?_,?_⟩
 ·rw [hw8];refine⟨ba,bu,lM f wd q v',BG l wd q (x,cv),hb8,?_,?_,?_,?_,Or.inl h6,Or.inl h7,Or.inl h8,h9,?_⟩
  ·cases wd
   ·obtain rfl:ba=mb:=by simpa using hmb
    have:=(hm.sm s8 (fun e=>hrmb e.symm));rw [hw8] at this;have e:(fun k=>if k=q then v' else f false k)=lM f false q v' false:=by funext k;simp [lM]
    rw [e] at this;rw [List.length_append];exact this
   ·obtain rfl:bu=mb:=by simpa using hmb
    have e:lM f true q v' false=f false:=by funext k;simp [lM]
    rw [e];exact(h2.sm s18 (fun hS=>by
     rcases hS with hS|hS|hS
     ·exact fh (h4.own true q) h2 hS
     ·exact h9 hS
     ·exact im h1 h2 hS.symm)).mono (by simp)
  ·cases wd
   ·obtain rfl:ba=mb:=by simpa using hmb
    have e:lM f false q v' true=f true:=by funext k;simp [lM]
    rw [e];exact(h3.sm s18 (fun hS=>by
     rcases hS with hS|hS|hS
     ·exact fh (h4.own false q) h3 hS
     ·exact h9 hS.symm
     ·exact im h1 h3 hS.symm)).mono (by simp)
   ·obtain rfl:bu=mb:=by simpa using hmb
    have:=(hm.sm s8 (fun e=>hrmb e.symm));rw [hw8] at this;have e:(fun k=>if k=q then v' else f true k)=lM f true q v' true:=by funext k;simp [lM]
    rw [e] at this;rw [List.length_append];exact this
  ·have hother:∀ d k,¬(d=wd∧k=q)→∀ b,(f d k).ownBlock=some b→¬((f wd q).ownBlock=some b∨b=mb∨b=r):=fun d k hne b e hS=>by
    rcases hS with hS|rfl|rfl
    ·rcases h4.apart d k wd q (fun e'=>hne ⟨(Prod.mk.inj e').1,(Prod.mk.inj e').2⟩) with g|g
     ·rw [g] at e;cases e
     ·exact g (e.trans hS.symm)
    ·exact hfm d k e
    ·exact hfr d k e
   refine⟨fun d k=> ?_,fun d k=> ?_,fun d k y hy=> ?_,fun d k d' k' hne=> ?_,fun d k g hg=> ?_,fun d k y hy g hg=> ?_⟩
   ·unfold lM BG;by_cases e:d=wd∧k=q
    ·obtain⟨rfl,rfl⟩:=e;rw [if_pos ⟨rfl,rfl⟩,if_pos ⟨rfl,rfl⟩,List.length_append,gE,List.flatMap_append];exact hv8
    ·rw [if_neg e,if_neg e];exact aa (h4.own d k) s18 (hother d k e)
   ·unfold lM BG;by_cases e:d=wd∧k=q
    ·rw [if_pos e,if_pos e];simp
    ·rw [if_neg e,if_neg e];exact h4.nil d k
   ·have hold:∀ y∈l d k,bo w8 0 y.2 y.1.ms:=fun y hy=>aa (h4.ms d k y hy) s18 (fun b e hS=>by
     rcases hS with hS|rfl|rfl
     ·exact mD (h4.ms d k y hy) (h4.own wd q) (by decide) e hS
     ·exact fh (h4.ms d k y hy) hmw e
     ·exact ah (h4.ms d k y hy) h1 (by decide) e)
    unfold BG at hy;split at hy
    ·rcases List.mem_append.1 hy with hy|hy
     ·exact hold y hy
     ·rw [List.mem_singleton] at hy;subst hy;exact hc8
    ·exact hold y hy
   ·unfold lM;by_cases e:d=wd∧k=q
    ·obtain⟨rfl,rfl⟩:=e;have e':¬(d'=d∧k'=k):=fun e'=>hne (by rw [e'.1,e'.2]);rw [if_pos ⟨rfl,rfl⟩,if_neg e'];rcases hb with g|g
     ·rw [g];exact h4.apart d k d' k' hne
     ·refine Or.inr (fun g2=> ?_);rw [g] at g2;have:=hflt _ _ _ g2.symm;omega
    ·rw [if_neg e];by_cases e':d'=wd∧k'=q
     ·obtain⟨rfl,rfl⟩:=e';rw [if_pos ⟨rfl,rfl⟩];rcases hb with g|g
      ·rw [g];exact h4.apart d k d' k' hne
      ·by_cases g3:(f d k).ownBlock=none
       ·exact Or.inl g3
       ·refine Or.inr (fun g2=> ?_);rw [g] at g2;have:=hflt _ _ _ g2;omega
     ·rw [if_neg e'];exact h4.apart d k d' k' hne
   ·unfold lM at hg;split at hg
    ·rcases hb with g2|g2
     ·exact Or.inl (h4.inO wd q g (g2 ▸ hg))
     ·have:=jh hv hg;rw [g2] at hg;injection hg with hg;exact Or.inr ⟨by omega,by omega⟩
    ·exact Or.inl (h4.inO d k g hg)
   ·have hold:∀ y∈l d k,y.2.ownBlock=some g→O g:=fun y hy e=>h4.inM d k y hy g e;unfold BG at hy;split at hy
    ·rcases List.mem_append.1 hy with hy|hy
     ·exact Or.inl (hold y hy hg)
     ·rw [List.mem_singleton] at hy;subst hy;have:=jh hc hg;have:=(World.ownsRow.lt hc _ hg).1;exact Or.inr ⟨by omega,by omega⟩
    ·exact Or.inl (hold y hy hg)
  ·intro d k;unfold BG;rw [Fx,hk];by_cases e:d=wd∧k=q
   ·obtain⟨rfl,rfl⟩:=e;rw [if_pos ⟨rfl,rfl⟩,if_pos rfl,List.map_append,h5];rfl
   ·rw [if_neg e,if_neg (fun e'=>e ⟨(Prod.mk.inj e').1.symm,(Prod.mk.inj e').2.symm⟩),h5]
  ·intro b hb';rw [z8];rcases hb' with hb'|hb'
   ·have:=hO b hb';omega
   ·exact hb'.2
 ·rw [hw8];refine s18.mono (fun b _ e=> ?_);rcases e with e|rfl|rfl
  ·exact h4.inO wd q b e
  ·exact hbO
  ·exact h6
end Go.Proofs.YtcflkcbogofgbaaGreatDoor
