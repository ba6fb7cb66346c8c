import Derived.Test.YtadcjgopaadfjaaGreatDoorQN
import Derived.Test.YtadcjgopaadfjaaGreatDoorQO
import Derived.Deep.RegionLaw
namespace Go.Proofs.YtadcjgopaadfjaaGreatDoor
open Go.RowKit Go.Proofs
theorem qM.row{w:World}{B:Nat}{v:Value}{l:List aM}(h:qM w B v l):∃ A c,v=.slice A l.length c∧ec w A l:=by
 obtain⟨A,c,hv,hR,_,_⟩:=au h;exact⟨A,c,hv,hR.frow⟩
theorem qM.no{w w':World}{B:Nat}{v:Value}{l:List aM}(h:qM w B v l)(hs:Sm No w w'):qM w' B v l:=ae h hs (fun _ _ h=>h)
theorem aA.lt{w:World}{B g:Nat}{t:TypeId}{v:Value}{l:List aM}(h:aA w B g t v l):g < w.heap.size∧∀ b,v.ownBlock=some b→B≤b∧b < w.heap.size:=
 ⟨h.1.lt,fun b hb=>World.ownsRow.lt h.2.1 b hb⟩
def pz(w:World)(gn:Nat)(names:List ByteArray):Prop:=∃ A c,Bk w gn 119 #[.slice A names.length c]∧gE w A names∧(∀ a,A=some a→a.block < w.heap.size∧a.block≠gn)∧names.length≤1000000∧∀ s∈names,s.size≤1000000
theorem pz.no{w w':World}{gn:Nat}{names:List ByteArray}(h:pz w gn names)(hs:Sm No w w'):pz w' gn names:=by
 obtain⟨A,c,hb,hA,hl⟩:=h;exact⟨A,c,hb.sm hs (fun h=>h),hA.no hs,fun a ha=>⟨Nat.lt_of_lt_of_le (hl.1 a ha).1 hs.size,(hl.1 a ha).2⟩,hl.2⟩
theorem Sm.setRow{S:Nat→Prop}{w w1:World}(h:Sm S w w1){g:Nat}(hg:S g∨w.heap.size≤g)(cs:Array Value):Sm S w (w1.setRow g cs):=
 ⟨h.os,h.tape,h.output,by have:=h.size;simp [World.setRow];omega,fun b hb hS=>(setRow_other w1 g b cs (by
  rintro rfl;rcases hg with hg|hg
  ·exact hS hg
  ·omega)).trans (h.block b hb hS)⟩
section
variable {P:Program} {ops:Array Oper} {rest:List Oper} {o:Oper} {a:Act} {w:World} {Q:Exit→Act→World→Prop}
end
theorem pz.sm{S:Nat→Prop}{w w':World}{gn:Nat}{names:List ByteArray}(h:pz w gn names)(hs:Sm S w w')(hg:¬S gn)(hb:∀ A c,w.cell? ⟨gn,0,none⟩=some (.slice (some A) names.length c)→¬S A.block):pz w' gn names:=by
 obtain⟨A,c,hb0,hA,hl⟩:=h;refine⟨A,c,hb0.sm hs hg,hA.sm hs (fun a ha=>hb a c ?_),fun a ha=>⟨Nat.lt_of_lt_of_le (hl.1 a ha).1 hs.size,(hl.1 a ha).2⟩,hl.2⟩;have:=hb0.at 0 (v:=.slice A names.length c) rfl;rw [ha] at this;exact this
theorem nU:∀ (l cur:List aM),∀ x∈(bh cur l).1,x∈cur∨(x∈l∧oz x=true)
 |[],cur,x,h=>Or.inl (by simpa [bh] using h)
 |y::l,cur,x,h=>by
  rw [bh] at h;split at h
  ·exact Or.inl h
  ·rename_i hy
   split at h
   ·exact Or.inl h
   ·rcases nU l _ x h with g|⟨g,e⟩
    ·rcases List.mem_append.1 g with g|g
     ·exact Or.inl g
     ·obtain rfl:=List.mem_singleton.1 g;exact Or.inr ⟨by simp,by simpa using hy⟩
    ·exact Or.inr ⟨List.mem_cons_of_mem _ g,e⟩
theorem uk{l:List aM}(h:jr l):jr (bh [] l).1:=fun x hx=>by
 rcases nU l [] x hx with g|⟨g,_⟩
 ·cases g
 ·exact h x g
theorem qg(w:World)(B g:Nat)(v:Value)(l:List aM)(name:ByteArray)(hF:aA w B g 214 v l)(hl:l.length≤24)(hshort:jr l)(hn:name.size≤1000000):
 Calls Tryz.prog 227 #[.pointer (some ⟨g,0,none⟩),.string name] w fun e w'=>e=.returned (.bool (decide (0 < (ak l name).length)))∧Sm No w w':=by
 have HV:=aa (gJ w B g v l name hF hl hshort hn);clear hF hshort;go_in;go_wp2_with fail;refine HV.out.mono ?_;rintro e w1 ⟨vs,rfl,hO,hs⟩;obtain⟨A,c,rfl,_⟩:=au hO;have HS:=aa hs;clear hO hs;go_wp2_with fail
 all_goals
  go_ret;exact⟨gi (by simp;try omega),HS.out⟩
theorem qM.row2{w:World}{B:Nat}{v:Value}{l:List aM}(h:qM w B v l):∃ A c,v=.slice A l.length c∧ec w A l∧(∀ a,A=some a→B≤a.block∧a.block < w.heap.size):=by
 obtain⟨A,c,rfl,hR⟩:=h.row;refine⟨A,c,rfl,hR,fun a ha=> ?_⟩;subst ha;exact World.ownsRow.lt h a.block rfl
theorem qk.row{w:World}{B:Nat}{v:Value}{l:List ByteArray}(h:qk w B v l):∃ A c,v=.slice A l.length c∧gE w A l:=by
 obtain⟨A,c,rfl,hR,_⟩:=au h;refine⟨A,c,rfl,fun k hk=> ?_⟩;obtain⟨bb,off,hA,hb,h1⟩:=hR k (.string l[k]) (by simp [hk]);exact⟨bb,off,hA,hb,h1⟩
end Go.Proofs.YtadcjgopaadfjaaGreatDoor
