import Derived.Test.YtcflkcbogofgbaaGreatDoorProg
import Derived.Test.YtcflkcbogofgbaaGreatDoorQA
import Derived.WalkKit
import Derived.Deep.QuietTactic
import Derived.BigQuiet
import Derived.Lib.Hide
import Derived.WalkLawsBesides
import Derived.Maps.OwnSet
set_option maxHeartbeats 1000000
namespace Go.Proofs.YtcflkcbogofgbaaGreatDoor
open Go.RowKit Go.Proofs
def gX(lo hi:Int)(l:List Int):Bool:=l.all fun n=>decide (lo≤n)&&decide (n≤hi)
theorem nL(xs:List Int)(k:Nat)(h:k < xs.length):xs.take (k+1)=xs.take k++[xs.getD k 0]:=by
 rw [List.take_succ_eq_append_getElem h];simp [List.getD,h]
theorem zO(lo hi:Int)(l:List Int)(x:Int):gX lo hi (l++[x])=(gX lo hi l&&(decide (lo≤x)&&decide (x≤hi))):=by
 simp [gX,List.all_append]
theorem B2(lo hi:Int)(xs:List Int)(k:Nat)(h:k < xs.length)(hx:¬(lo≤xs.getD k 0∧xs.getD k 0≤hi)):gX lo hi xs=false:=by
 cases hq:gX lo hi xs
 ·rfl
 ·exfalso
  have:=List.all_eq_true.1 hq (xs.getD k 0) (by simp [List.getD,h]);simp at this;exact hx this
theorem xz (lo hi:Int) (b:Nat) (xs:List Int) (cap:Nat) (w:World) (hlen:xs.length≤1000)
 (hc:∀ k,k < xs.length→w.cell? ⟨b,k,none⟩=some (.int .i64 (xs.getD k 0))):
 Calls Tryz.prog 97 #[.int .i64 lo,.int .i64 hi,.slice (some ⟨b,0,none⟩) xs.length cap] w fun e w'=>e=.returned (.bool (gX lo hi xs))∧w=w':=by
 go_in
 go_wp2
 go_loop [11] (fun i=>∃ k:Nat,k≤xs.length∧i=.int .i64 k∧gX lo hi (xs.take k)=true) (fun i=>xs.length-(intOf i).toNat)
 case atStart=>exact⟨0,Nat.zero_le _,rfl,rfl⟩
 case round=>
  obtain⟨k,hk,rfl,H⟩:=hrel;have HH:=ns H;clear H;by_cases hlt:k < xs.length
  ·have hcell:=hc k hlt;have hs:lo≤xs.getD k 0→xs.getD k 0≤hi→gX lo hi (xs.take (k+1))=true:=by
    intro h1 h2;rw [nL xs k hlt,zO,HH.out,Bool.true_and];simp only [h1,h2,decide_true,Bool.and_self]
   have hs2:=B2 lo hi xs k hlt;obtain⟨x,hx⟩:∃ x,x=xs.getD k 0:=⟨_,rfl⟩;rw [←hx] at hcell hs hs2;have Hs:=ns hs;have Hs2:=ns hs2;clear hs hs2 hx hc;by_cases h1:x < lo
   ·go_wp2
    go_ret;exact⟨gq (Hs2.out (by omega)).symm,rfl⟩
   ·by_cases h2:hi < x
    ·go_wp2
     go_ret;exact⟨gq (Hs2.out (by omega)).symm,rfl⟩
    ·go_wp2
     go_round
     case rel=>exact⟨k+1,by omega,by go_num,Hs.out (by omega) (by omega)⟩
     case measure=>simp [intOf];omega
  ·clear hc;have e:gX lo hi xs=true:=by
    have:=HH.out
    rwa [List.take_of_length_le (by omega)] at this
   have E:=ns e;clear e
   go_wp2
   go_ret;exact⟨gq E.out.symm,rfl⟩
structure oa where
 maxConns:Int
 maxPerPeer:Int
 pipeline:Int
 buffers:Int
 idle:Int
 head:Int
 body:Int
 write:Int
 linger:Int
 pace:Int
 paceBytes:Int
 base:Int
 cap:Int
 refuse:Bool
 evict:Bool
 ta:Option Addr
 tl:Nat
 tc:Nat
def oa.vals(c:oa):Array Value:=#[.int .i64 c.maxConns,.int .i64 c.maxPerPeer,.int .i64 c.pipeline,.int .i64 c.buffers,.int .i64 c.idle,.int .i64 c.head,.int .i64 c.body,.int .i64 c.write,.int .i64 c.linger,
 .int .i64 c.pace,.int .i64 c.paceBytes,.int .i64 c.base,.int .i64 c.cap,.bool c.refuse,.bool c.evict,.slice c.ta c.tl c.tc]
def oa.ok(c:oa):Bool:=
 gX 1 64 [c.maxConns,c.maxPerPeer,c.pipeline]&&gX 0 4096 [c.buffers]&&gX 1 1073741824 [c.idle,c.head,c.body,c.write,c.linger]&&gX 0 1073741824 [c.pace,c.cap]&&gX 0 1048576 [c.paceBytes,c.base]
theorem Bb(w:World)(t:TypeId)(xs:List Int)(b:Nat)(hb:b=w.heap.size):
 ∀ k,k < xs.length→(w.alloc (.cells (xs.map (Value.int .i64)).toArray t)).cell? ⟨b,k,none⟩=some (.int .i64 (xs.getD k 0)):=by
 intro k hk;subst hb;simp [List.getD,hk]
theorem aT {lo hi:Int} {b:Nat} {w:World} {t:TypeId} (xs:List Int) (r:Bool) (hr:Hid (gX lo hi xs=r)) (hlen:xs.length≤1000) (cap n:Nat) (hn:n=xs.length) (vs:Array Value) (hv:vs=(xs.map (Value.int .i64)).toArray)
 (hb:b=w.heap.size):
 Calls Tryz.prog 97 #[.int .i64 lo,.int .i64 hi,.slice (some ⟨b,0,none⟩) n cap] (w.alloc (.cells vs t)) fun e w'=>e=.returned (.bool r)∧w.alloc (.cells vs t)=w':=by
 subst hn hv;rw [←hr.out];exact xz lo hi b xs cap _ hlen (Bb w t xs b hb)
theorem rR(c:oa)(w:World):
 Calls Tryz.prog 51 #[.agg c.vals] w fun e w'=>e=.returned (.bool c.ok)∧Sm No w w':=by
 unfold oa.ok oa.vals;obtain⟨r1,h1⟩:∃ r,gX 1 64 [c.maxConns,c.maxPerPeer,c.pipeline]=r:=⟨_,rfl⟩;obtain⟨r2,h2⟩:∃ r,gX 0 4096 [c.buffers]=r:=⟨_,rfl⟩;obtain⟨r3,h3⟩:∃ r,gX 1 1073741824 [c.idle,c.head,c.body,c.write,c.linger]=r:=⟨_,rfl⟩;obtain⟨r4,h4⟩:∃ r,gX 0 1073741824 [c.pace,c.cap]=r:=⟨_,rfl⟩;obtain⟨r5,h5⟩:∃ r,gX 0 1048576 [c.paceBytes,c.base]=r:=⟨_,rfl⟩;rw [h1,h2,h3,h4,h5];have H1:=ns h1;have H2:=ns h2;have H3:=ns h3;have H4:=ns h4;have H5:=ns h5;clear h1 h2 h3 h4 h5
 cases r1
 ·go_in;go_wp2_with fail;refine(aT _ _ H1 (by simp) _ _ rfl _ rfl (by simp)).mono ?_;rintro e w' ⟨rfl,rfl⟩;go_wp2_with fail;go_ret;exact⟨gq (by simp),by repeat (first|exact Sm.refl _ _|apply Sm.alloc)⟩
 ·cases r2
  ·go_in;go_wp2_with fail;refine(aT _ _ H1 (by simp) _ _ rfl _ rfl (by simp)).mono ?_;rintro e w' ⟨rfl,rfl⟩;go_wp2_with fail;refine(aT _ _ H2 (by simp) _ _ rfl _ rfl (by simp)).mono ?_;rintro e w' ⟨rfl,rfl⟩;go_wp2_with fail;go_ret;exact⟨gq (by simp),by repeat (first|exact Sm.refl _ _|apply Sm.alloc)⟩
  ·cases r3
   ·go_in;go_wp2_with fail;refine(aT _ _ H1 (by simp) _ _ rfl _ rfl (by simp)).mono ?_;rintro e w' ⟨rfl,rfl⟩;go_wp2_with fail;refine(aT _ _ H2 (by simp) _ _ rfl _ rfl (by simp)).mono ?_;rintro e w' ⟨rfl,rfl⟩;go_wp2_with fail;refine(aT _ _ H3 (by simp) _ _ rfl _ rfl (by simp)).mono ?_;rintro e w' ⟨rfl,rfl⟩;go_wp2_with fail;go_ret;exact⟨gq (by simp),by repeat (first|exact Sm.refl _ _|apply Sm.alloc)⟩
   ·cases r4
    ·go_in;go_wp2_with fail;refine(aT _ _ H1 (by simp) _ _ rfl _ rfl (by simp)).mono ?_;rintro e w' ⟨rfl,rfl⟩;go_wp2_with fail;refine(aT _ _ H2 (by simp) _ _ rfl _ rfl (by simp)).mono ?_;rintro e w' ⟨rfl,rfl⟩;go_wp2_with fail;refine(aT _ _ H3 (by simp) _ _ rfl _ rfl (by simp)).mono ?_;rintro e w' ⟨rfl,rfl⟩;go_wp2_with fail;refine(aT _ _ H4 (by simp) _ _ rfl _ rfl (by simp)).mono ?_;rintro e w' ⟨rfl,rfl⟩;go_wp2_with fail;go_ret;exact⟨gq (by simp),by repeat (first|exact Sm.refl _ _|apply Sm.alloc)⟩
    ·cases r5
     ·go_in;go_wp2_with fail;refine(aT _ _ H1 (by simp) _ _ rfl _ rfl (by simp)).mono ?_;rintro e w' ⟨rfl,rfl⟩;go_wp2_with fail;refine(aT _ _ H2 (by simp) _ _ rfl _ rfl (by simp)).mono ?_;rintro e w' ⟨rfl,rfl⟩;go_wp2_with fail;refine(aT _ _ H3 (by simp) _ _ rfl _ rfl (by simp)).mono ?_;rintro e w' ⟨rfl,rfl⟩;go_wp2_with fail;refine(aT _ _ H4 (by simp) _ _ rfl _ rfl (by simp)).mono ?_;rintro e w' ⟨rfl,rfl⟩;go_wp2_with fail;refine(aT _ _ H5 (by simp) _ _ rfl _ rfl (by simp)).mono ?_;rintro e w' ⟨rfl,rfl⟩;go_wp2_with fail;go_ret;exact⟨gq (by simp),by repeat (first|exact Sm.refl _ _|apply Sm.alloc)⟩
     ·go_in;go_wp2_with fail;refine(aT _ _ H1 (by simp) _ _ rfl _ rfl (by simp)).mono ?_;rintro e w' ⟨rfl,rfl⟩;go_wp2_with fail;refine(aT _ _ H2 (by simp) _ _ rfl _ rfl (by simp)).mono ?_;rintro e w' ⟨rfl,rfl⟩;go_wp2_with fail;refine(aT _ _ H3 (by simp) _ _ rfl _ rfl (by simp)).mono ?_;rintro e w' ⟨rfl,rfl⟩;go_wp2_with fail;refine(aT _ _ H4 (by simp) _ _ rfl _ rfl (by simp)).mono ?_;rintro e w' ⟨rfl,rfl⟩;go_wp2_with fail;refine(aT _ _ H5 (by simp) _ _ rfl _ rfl (by simp)).mono ?_;rintro e w' ⟨rfl,rfl⟩;go_wp2_with fail;go_ret;exact⟨gq (by simp),by repeat (first|exact Sm.refl _ _|apply Sm.alloc)⟩
end Go.Proofs.YtcflkcbogofgbaaGreatDoor
namespace Go.Proofs.YtcflkcbogofgbaaGreatDoor
open Go.RowKit Go.Proofs Go.Maps
theorem js:(Tryz.prog.info? 25).map (·.size)=some 16:=by kernel_rfl
structure GS where
 all:Int
 fails:Int
 delay:Int
 till:Int
 stopped:Bool
def Df(c:oa)(m:Nat)(s:GS):Array Value:=#[.int .i64 c.maxConns,.int .i64 c.maxPerPeer,.int .i64 c.pipeline,.int .i64 c.buffers,.int .i64 c.idle,.int .i64 c.head,.int .i64 c.body,.int .i64 c.write,.int .i64 c.linger,
 .int .i64 c.pace,.int .i64 c.paceBytes,.int .i64 c.base,.int .i64 c.cap,.bool c.refuse,.bool c.evict,.slice c.ta c.tl c.tc,.map (some m),.int .i64 s.all,.int .i64 s.fails,.int .i64 s.delay,.int .i64 s.till,.bool s.stopped]
def gV(w:World)(m n:Nat)(f:Int→Int):Prop:=
 ∃ D:DataW Unit,w.ownsMap Tryz.prog 3 (plainElem Tryz.prog 3) m n D∧∀ p,(Lit.int .i64 p).wf=true→D.atKey (.int .i64 p) (.lit (.int .i64 0))=.lit (.int .i64 (f p))
structure Gj (w:World) (g m n:Nat) (c:oa) (f:Int→Int) (s:GS):Prop where
 blk:Bk w g 112 (Df c m s)
 map:gV w m n f
 ne:g≠m
theorem gV.sm{S:Nat→Prop}{w w':World}{m n:Nat}{f:Int→Int}(h:gV w m n f)(hs:Sm S w w')(hm:¬S m):gV w' m n f:=by
 obtain⟨D,h1,h2⟩:=h;exact⟨D,Cg h1 hs hm,h2⟩
theorem gV.alloc{w:World}{m n:Nat}{f:Int→Int}(h:gV w m n f)(o:Obj):gV (w.alloc o) m n f:=h.sm ((Sm.refl No w).alloc o) (fun h=>h)
theorem gV.drewN{w:World}{m n:Nat}{f:Int→Int}(h:gV w m n f)(k:Nat):gV (w.drewN k) m n f:=h.sm ((Sm.refl No w).drewN k) (fun h=>h)
theorem gV.made(w:World){m:Nat}(hm:m=w.heap.size):gV (w.alloc (.map #[] 0)) m 0 (fun _=>0):=by
 subst hm;exact⟨.map [],World.ownsMap_made w _ _ _,fun p _=>rfl⟩
theorem rt{c:oa}{w:World}{r:Bool}(h:Hid (c.ok=r)):Calls Tryz.prog 51 #[.agg c.vals] w fun e w'=>e=.returned (.bool r)∧Sm No w w':=by
 rw [←h.out];exact rR c w
theorem Gk(c:oa)(w:World)(hc:c.ok=true):Calls Tryz.prog 35 #[.agg c.vals] w fun e w'=>
 ∃ g m,w.heap.size≤g∧w.heap.size≤m∧e=.returned (.tuple #[.pointer (some ⟨g,0,none⟩),.int .i64 0])∧Gj w' g m 0 c (fun _=>0) ⟨0,0,0,0,false⟩∧Sm No w w':=by
 have Hc:=ns hc;clear hc;have hmm:= @run_makeMap Tryz.prog;unfold oa.vals;go_in;go_wp2_with (refine bF rfl 25 _ rfl Tryz.underlying25 16 js _ rfl _ (Bk.new _ _ _) rfl ?_);refine(rt Hc).mono ?_;rintro e w1 ⟨rfl,hs⟩;have hb1:=(Bk.new w 25 c.vals).sm hs (fun h=>h.elim);unfold oa.vals at hb1;have hsz:=hs.size;simp only [World.size_alloc] at hsz;go_wp2_with (refine bF rfl 25 _ rfl Tryz.underlying25 16 js _ rfl _ hb1 rfl ?_);go_ret2;refine⟨w1.heap.size+1,w1.heap.size,by omega,by omega,rfl,⟨?_,?_,by omega⟩,?_⟩
 ·exact Bk.newAt (w1.alloc (.map #[] 0)) _ _ (by simp)
 ·exact(gV.made w1 rfl).alloc _
 ·exact((((Sm.refl No w).alloc _).tt hs).alloc _).alloc _
end Go.Proofs.YtcflkcbogofgbaaGreatDoor
