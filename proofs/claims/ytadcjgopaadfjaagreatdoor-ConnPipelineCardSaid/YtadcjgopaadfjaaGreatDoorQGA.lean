import Derived.Test.YtadcjgopaadfjaaGreatDoorProg
import Derived.Test.YtadcjgopaadfjaaGreatDoorQA
import Derived.WalkKit
import Derived.Deep.QuietTactic
import Derived.BigQuiet
import Derived.Lib.Hide
import Derived.WalkLawsBesides
import Derived.Maps.OwnSet
set_option maxHeartbeats 1000000
namespace Go.Proofs.YtadcjgopaadfjaaGreatDoor
open Go.RowKit Go.Proofs
def fU(lo hi:Int)(l:List Int):Bool:=l.all fun n=>decide (lo≤n)&&decide (n≤hi)
theorem nO(xs:List Int)(k:Nat)(h:k < xs.length):xs.take (k+1)=xs.take k++[xs.getD k 0]:=by
 rw [List.take_succ_eq_append_getElem h];simp [List.getD,h]
theorem zw(lo hi:Int)(l:List Int)(x:Int):fU lo hi (l++[x])=(fU lo hi l&&(decide (lo≤x)&&decide (x≤hi))):=by
 simp [fU,List.all_append]
theorem B9(lo hi:Int)(xs:List Int)(k:Nat)(h:k < xs.length)(hx:¬(lo≤xs.getD k 0∧xs.getD k 0≤hi)):fU lo hi xs=false:=by
 cases hq:fU lo hi xs
 ·rfl
 ·exfalso
  have:=List.all_eq_true.1 hq (xs.getD k 0) (by simp [List.getD,h]);simp at this;exact hx this
theorem uQ (lo hi:Int) (b:Nat) (xs:List Int) (cap:Nat) (w:World) (hlen:xs.length≤1000)
 (hc:∀ k,k < xs.length→w.cell? ⟨b,k,none⟩=some (.int .i64 (xs.getD k 0))):
 Calls Tryz.prog 111 #[.int .i64 lo,.int .i64 hi,.slice (some ⟨b,0,none⟩) xs.length cap] w fun e w'=>e=.returned (.bool (fU lo hi xs))∧w=w':=by
 go_in
 go_wp2
 go_loop [11] (fun i=>∃ k:Nat,k≤xs.length∧i=.int .i64 k∧fU lo hi (xs.take k)=true) (fun i=>xs.length-(intOf i).toNat)
 case atStart=>exact⟨0,Nat.zero_le _,rfl,rfl⟩
 case round=>
  obtain⟨k,hk,rfl,H⟩:=hrel;have HH:=aa H;clear H;by_cases hlt:k < xs.length
  ·have hcell:=hc k hlt;have hs:lo≤xs.getD k 0→xs.getD k 0≤hi→fU lo hi (xs.take (k+1))=true:=by
    intro h1 h2;rw [nO xs k hlt,zw,HH.out,Bool.true_and];simp only [h1,h2,decide_true,Bool.and_self]
   have hs2:=B9 lo hi xs k hlt;obtain⟨x,hx⟩:∃ x,x=xs.getD k 0:=⟨_,rfl⟩;rw [←hx] at hcell hs hs2;have Hs:=aa hs;have Hs2:=aa hs2;clear hs hs2 hx hc;by_cases h1:x < lo
   ·go_wp2
    go_ret;exact⟨gi (Hs2.out (by omega)).symm,rfl⟩
   ·by_cases h2:hi < x
    ·go_wp2
     go_ret;exact⟨gi (Hs2.out (by omega)).symm,rfl⟩
    ·go_wp2
     go_round
     case rel=>exact⟨k+1,by omega,by go_num,Hs.out (by omega) (by omega)⟩
     case measure=>simp [intOf];omega
  ·clear hc;have e:fU lo hi xs=true:=by
    have:=HH.out
    rwa [List.take_of_length_le (by omega)] at this
   have E:=aa e;clear e
   go_wp2
   go_ret;exact⟨gi E.out.symm,rfl⟩
structure ug where
 maxConns:Int
 maxPerPeer:Int
 pipeline:Int
 buffers:Int
 idle:Int
 head:Int
 body:Int
 write:Int
 linger:Int
 pace:Int
 paceBytes:Int
 base:Int
 cap:Int
 refuse:Bool
 evict:Bool
 ta:Option Addr
 tl:Nat
 tc:Nat
def ug.vals(c:ug):Array Value:=#[.int .i64 c.maxConns,.int .i64 c.maxPerPeer,.int .i64 c.pipeline,.int .i64 c.buffers,.int .i64 c.idle,.int .i64 c.head,.int .i64 c.body,.int .i64 c.write,.int .i64 c.linger,
 .int .i64 c.pace,.int .i64 c.paceBytes,.int .i64 c.base,.int .i64 c.cap,.bool c.refuse,.bool c.evict,.slice c.ta c.tl c.tc]
def ug.ok(c:ug):Bool:=
 fU 1 64 [c.maxConns,c.maxPerPeer,c.pipeline]&&fU 0 4096 [c.buffers]&&fU 1 1073741824 [c.idle,c.head,c.body,c.write,c.linger]&&fU 0 1073741824 [c.pace,c.cap]&&fU 0 1048576 [c.paceBytes,c.base]
theorem Ak(w:World)(t:TypeId)(xs:List Int)(b:Nat)(hb:b=w.heap.size):
 ∀ k,k < xs.length→(w.alloc (.cells (xs.map (Value.int .i64)).toArray t)).cell? ⟨b,k,none⟩=some (.int .i64 (xs.getD k 0)):=by
 intro k hk;subst hb;simp [List.getD,hk]
theorem aI {lo hi:Int} {b:Nat} {w:World} {t:TypeId} (xs:List Int) (r:Bool) (hr:Hid (fU lo hi xs=r)) (hlen:xs.length≤1000) (cap n:Nat) (hn:n=xs.length) (vs:Array Value) (hv:vs=(xs.map (Value.int .i64)).toArray)
 (hb:b=w.heap.size):
 Calls Tryz.prog 111 #[.int .i64 lo,.int .i64 hi,.slice (some ⟨b,0,none⟩) n cap] (w.alloc (.cells vs t)) fun e w'=>e=.returned (.bool r)∧w.alloc (.cells vs t)=w':=by
 subst hn hv;rw [←hr.out];exact uQ lo hi b xs cap _ hlen (Ak w t xs b hb)
theorem qZ(c:ug)(w:World):
 Calls Tryz.prog 76 #[.agg c.vals] w fun e w'=>e=.returned (.bool c.ok)∧Sm No w w':=by
 unfold ug.ok ug.vals;obtain⟨r1,h1⟩:∃ r,fU 1 64 [c.maxConns,c.maxPerPeer,c.pipeline]=r:=⟨_,rfl⟩;obtain⟨r2,h2⟩:∃ r,fU 0 4096 [c.buffers]=r:=⟨_,rfl⟩;obtain⟨r3,h3⟩:∃ r,fU 1 1073741824 [c.idle,c.head,c.body,c.write,c.linger]=r:=⟨_,rfl⟩;obtain⟨r4,h4⟩:∃ r,fU 0 1073741824 [c.pace,c.cap]=r:=⟨_,rfl⟩;obtain⟨r5,h5⟩:∃ r,fU 0 1048576 [c.paceBytes,c.base]=r:=⟨_,rfl⟩;rw [h1,h2,h3,h4,h5];have H1:=aa h1;have H2:=aa h2;have H3:=aa h3;have H4:=aa h4;have H5:=aa h5;clear h1 h2 h3 h4 h5
 cases r1
 ·go_in;go_wp2_with fail;refine(aI _ _ H1 (by simp) _ _ rfl _ rfl (by simp)).mono ?_;rintro e w' ⟨rfl,rfl⟩;go_wp2_with fail;go_ret;exact⟨gi (by simp),by repeat (first|exact Sm.refl _ _|apply Sm.alloc)⟩
 ·cases r2
  ·go_in;go_wp2_with fail;refine(aI _ _ H1 (by simp) _ _ rfl _ rfl (by simp)).mono ?_;rintro e w' ⟨rfl,rfl⟩;go_wp2_with fail;refine(aI _ _ H2 (by simp) _ _ rfl _ rfl (by simp)).mono ?_;rintro e w' ⟨rfl,rfl⟩;go_wp2_with fail;go_ret;exact⟨gi (by simp),by repeat (first|exact Sm.refl _ _|apply Sm.alloc)⟩
  ·cases r3
   ·go_in;go_wp2_with fail;refine(aI _ _ H1 (by simp) _ _ rfl _ rfl (by simp)).mono ?_;rintro e w' ⟨rfl,rfl⟩;go_wp2_with fail;refine(aI _ _ H2 (by simp) _ _ rfl _ rfl (by simp)).mono ?_;rintro e w' ⟨rfl,rfl⟩;go_wp2_with fail;refine(aI _ _ H3 (by simp) _ _ rfl _ rfl (by simp)).mono ?_;rintro e w' ⟨rfl,rfl⟩;go_wp2_with fail;go_ret;exact⟨gi (by simp),by repeat (first|exact Sm.refl _ _|apply Sm.alloc)⟩
   ·cases r4
    ·go_in;go_wp2_with fail;refine(aI _ _ H1 (by simp) _ _ rfl _ rfl (by simp)).mono ?_;rintro e w' ⟨rfl,rfl⟩;go_wp2_with fail;refine(aI _ _ H2 (by simp) _ _ rfl _ rfl (by simp)).mono ?_;rintro e w' ⟨rfl,rfl⟩;go_wp2_with fail;refine(aI _ _ H3 (by simp) _ _ rfl _ rfl (by simp)).mono ?_;rintro e w' ⟨rfl,rfl⟩;go_wp2_with fail;refine(aI _ _ H4 (by simp) _ _ rfl _ rfl (by simp)).mono ?_;rintro e w' ⟨rfl,rfl⟩;go_wp2_with fail;go_ret;exact⟨gi (by simp),by repeat (first|exact Sm.refl _ _|apply Sm.alloc)⟩
    ·cases r5
     ·go_in;go_wp2_with fail;refine(aI _ _ H1 (by simp) _ _ rfl _ rfl (by simp)).mono ?_;rintro e w' ⟨rfl,rfl⟩;go_wp2_with fail;refine(aI _ _ H2 (by simp) _ _ rfl _ rfl (by simp)).mono ?_;rintro e w' ⟨rfl,rfl⟩;go_wp2_with fail;refine(aI _ _ H3 (by simp) _ _ rfl _ rfl (by simp)).mono ?_;rintro e w' ⟨rfl,rfl⟩;go_wp2_with fail;refine(aI _ _ H4 (by simp) _ _ rfl _ rfl (by simp)).mono ?_;rintro e w' ⟨rfl,rfl⟩;go_wp2_with fail;refine(aI _ _ H5 (by simp) _ _ rfl _ rfl (by simp)).mono ?_;rintro e w' ⟨rfl,rfl⟩;go_wp2_with fail;go_ret;exact⟨gi (by simp),by repeat (first|exact Sm.refl _ _|apply Sm.alloc)⟩
     ·go_in;go_wp2_with fail;refine(aI _ _ H1 (by simp) _ _ rfl _ rfl (by simp)).mono ?_;rintro e w' ⟨rfl,rfl⟩;go_wp2_with fail;refine(aI _ _ H2 (by simp) _ _ rfl _ rfl (by simp)).mono ?_;rintro e w' ⟨rfl,rfl⟩;go_wp2_with fail;refine(aI _ _ H3 (by simp) _ _ rfl _ rfl (by simp)).mono ?_;rintro e w' ⟨rfl,rfl⟩;go_wp2_with fail;refine(aI _ _ H4 (by simp) _ _ rfl _ rfl (by simp)).mono ?_;rintro e w' ⟨rfl,rfl⟩;go_wp2_with fail;refine(aI _ _ H5 (by simp) _ _ rfl _ rfl (by simp)).mono ?_;rintro e w' ⟨rfl,rfl⟩;go_wp2_with fail;go_ret;exact⟨gi (by simp),by repeat (first|exact Sm.refl _ _|apply Sm.alloc)⟩
end Go.Proofs.YtadcjgopaadfjaaGreatDoor
namespace Go.Proofs.YtadcjgopaadfjaaGreatDoor
open Go.RowKit Go.Proofs Go.Maps
theorem eN:(Tryz.prog.info? 28).map (·.size)=some 16:=by kernel_rfl
structure GS where
 all:Int
 fails:Int
 delay:Int
 till:Int
 stopped:Bool
def Ct(c:ug)(m:Nat)(s:GS):Array Value:=#[.int .i64 c.maxConns,.int .i64 c.maxPerPeer,.int .i64 c.pipeline,.int .i64 c.buffers,.int .i64 c.idle,.int .i64 c.head,.int .i64 c.body,.int .i64 c.write,.int .i64 c.linger,
 .int .i64 c.pace,.int .i64 c.paceBytes,.int .i64 c.base,.int .i64 c.cap,.bool c.refuse,.bool c.evict,.slice c.ta c.tl c.tc,.map (some m),.int .i64 s.all,.int .i64 s.fails,.int .i64 s.delay,.int .i64 s.till,.bool s.stopped]
def gC(w:World)(m n:Nat)(f:Int→Int):Prop:=
 ∃ D:DataW Unit,w.ownsMap Tryz.prog 3 (plainElem Tryz.prog 3) m n D∧∀ p,(Lit.int .i64 p).wf=true→D.atKey (.int .i64 p) (.lit (.int .i64 0))=.lit (.int .i64 (f p))
structure E6 (w:World) (g m n:Nat) (c:ug) (f:Int→Int) (s:GS):Prop where
 blk:Bk w g 147 (Ct c m s)
 map:gC w m n f
 ne:g≠m
theorem gC.sm{S:Nat→Prop}{w w':World}{m n:Nat}{f:Int→Int}(h:gC w m n f)(hs:Sm S w w')(hm:¬S m):gC w' m n f:=by
 obtain⟨D,h1,h2⟩:=h;exact⟨D,vG h1 hs hm,h2⟩
theorem gC.alloc{w:World}{m n:Nat}{f:Int→Int}(h:gC w m n f)(o:Obj):gC (w.alloc o) m n f:=h.sm ((Sm.refl No w).alloc o) (fun h=>h)
theorem gC.drewN{w:World}{m n:Nat}{f:Int→Int}(h:gC w m n f)(k:Nat):gC (w.drewN k) m n f:=h.sm ((Sm.refl No w).drewN k) (fun h=>h)
theorem gC.made(w:World){m:Nat}(hm:m=w.heap.size):gC (w.alloc (.map #[] 0)) m 0 (fun _=>0):=by
 subst hm;exact⟨.map [],World.ownsMap_made w _ _ _,fun p _=>rfl⟩
theorem pI{c:ug}{w:World}{r:Bool}(h:Hid (c.ok=r)):Calls Tryz.prog 76 #[.agg c.vals] w fun e w'=>e=.returned (.bool r)∧Sm No w w':=by
 rw [←h.out];exact qZ c w
theorem Bb(c:ug)(w:World)(hc:c.ok=true):Calls Tryz.prog 53 #[.agg c.vals] w fun e w'=>
 ∃ g m,w.heap.size≤g∧w.heap.size≤m∧e=.returned (.tuple #[.pointer (some ⟨g,0,none⟩),.int .i64 0])∧E6 w' g m 0 c (fun _=>0) ⟨0,0,0,0,false⟩∧Sm No w w':=by
 have Hc:=aa hc;clear hc;have hmm:= @run_makeMap Tryz.prog;unfold ug.vals;go_in;go_wp2_with (refine bj rfl 28 _ rfl Tryz.underlying28 16 eN _ rfl _ (Bk.new _ _ _) rfl ?_);refine(pI Hc).mono ?_;rintro e w1 ⟨rfl,hs⟩;have hb1:=(Bk.new w 28 c.vals).sm hs (fun h=>h.elim);unfold ug.vals at hb1;have hsz:=hs.size;simp only [World.size_alloc] at hsz;go_wp2_with (refine bj rfl 28 _ rfl Tryz.underlying28 16 eN _ rfl _ hb1 rfl ?_);go_ret2;refine⟨w1.heap.size+1,w1.heap.size,by omega,by omega,rfl,⟨?_,?_,by omega⟩,?_⟩
 ·exact Bk.newAt (w1.alloc (.map #[] 0)) _ _ (by simp)
 ·exact(gC.made w1 rfl).alloc _
 ·exact((((Sm.refl No w).alloc _).tt hs).alloc _).alloc _
end Go.Proofs.YtadcjgopaadfjaaGreatDoor
