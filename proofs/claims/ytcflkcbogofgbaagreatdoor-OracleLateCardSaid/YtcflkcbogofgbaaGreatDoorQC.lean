import Derived.Test.YtcflkcbogofgbaaGreatDoorQN
import Derived.Test.YtcflkcbogofgbaaGreatDoorQO
import Derived.Deep.RegionLaw
namespace Go.Proofs.YtcflkcbogofgbaaGreatDoor
open Go.RowKit Go.Proofs
theorem rK.row{w:World}{B:Nat}{v:Value}{l:List aJ}(h:rK w B v l):∃ A c,v=.slice A l.length c∧dM w A l:=by
 obtain⟨A,c,hv,hR,_,_⟩:=ak h;exact⟨A,c,hv,hR.frow⟩
theorem rK.no{w w':World}{B:Nat}{v:Value}{l:List aJ}(h:rK w B v l)(hs:Sm No w w'):rK w' B v l:=aa h hs (fun _ _ h=>h)
theorem aD.lt{w:World}{B g:Nat}{t:TypeId}{v:Value}{l:List aJ}(h:aD w B g t v l):g < w.heap.size∧∀ b,v.ownBlock=some b→B≤b∧b < w.heap.size:=
 ⟨h.1.lt,fun b hb=>World.ownsRow.lt h.2.1 b hb⟩
def qo(w:World)(gn:Nat)(names:List ByteArray):Prop:=∃ A c,Bk w gn 125 #[.slice A names.length c]∧fD w A names∧(∀ a,A=some a→a.block < w.heap.size∧a.block≠gn)∧names.length≤1000000∧∀ s∈names,s.size≤1000000
theorem qo.no{w w':World}{gn:Nat}{names:List ByteArray}(h:qo w gn names)(hs:Sm No w w'):qo w' gn names:=by
 obtain⟨A,c,hb,hA,hl⟩:=h;exact⟨A,c,hb.sm hs (fun h=>h),hA.no hs,fun a ha=>⟨Nat.lt_of_lt_of_le (hl.1 a ha).1 hs.size,(hl.1 a ha).2⟩,hl.2⟩
theorem Sm.setRow{S:Nat→Prop}{w w1:World}(h:Sm S w w1){g:Nat}(hg:S g∨w.heap.size≤g)(cs:Array Value):Sm S w (w1.setRow g cs):=
 ⟨h.os,h.tape,h.output,by have:=h.size;simp [World.setRow];omega,fun b hb hS=>(setRow_other w1 g b cs (by
  rintro rfl;rcases hg with hg|hg
  ·exact hS hg
  ·omega)).trans (h.block b hb hS)⟩
section
variable {P:Program} {ops:Array Oper} {rest:List Oper} {o:Oper} {a:Act} {w:World} {Q:Exit→Act→World→Prop}
end
theorem qo.sm{S:Nat→Prop}{w w':World}{gn:Nat}{names:List ByteArray}(h:qo w gn names)(hs:Sm S w w')(hg:¬S gn)(hb:∀ A c,w.cell? ⟨gn,0,none⟩=some (.slice (some A) names.length c)→¬S A.block):qo w' gn names:=by
 obtain⟨A,c,hb0,hA,hl⟩:=h;refine⟨A,c,hb0.sm hs hg,hA.sm hs (fun a ha=>hb a c ?_),fun a ha=>⟨Nat.lt_of_lt_of_le (hl.1 a ha).1 hs.size,(hl.1 a ha).2⟩,hl.2⟩;have:=hb0.at 0 (v:=.slice A names.length c) rfl;rw [ha] at this;exact this
theorem oT:∀ (l cur:List aJ),∀ x∈(aY cur l).1,x∈cur∨(x∈l∧ny x=true)
 |[],cur,x,h=>Or.inl (by simpa [aY] using h)
 |y::l,cur,x,h=>by
  rw [aY] at h;split at h
  ·exact Or.inl h
  ·rename_i hy
   split at h
   ·exact Or.inl h
   ·rcases oT l _ x h with g|⟨g,e⟩
    ·rcases List.mem_append.1 g with g|g
     ·exact Or.inl g
     ·obtain rfl:=List.mem_singleton.1 g;exact Or.inr ⟨by simp,by simpa using hy⟩
    ·exact Or.inr ⟨List.mem_cons_of_mem _ g,e⟩
theorem vo{l:List aJ}(h:gK l):gK (aY [] l).1:=fun x hx=>by
 rcases oT l [] x hx with g|⟨g,_⟩
 ·cases g
 ·exact h x g
theorem rA(w:World)(B g:Nat)(v:Value)(l:List aJ)(name:ByteArray)(hF:aD w B g 195 v l)(hl:l.length≤24)(hshort:gK l)(hn:name.size≤1000000):
 Calls Tryz.prog 256 #[.pointer (some ⟨g,0,none⟩),.string name] w fun e w'=>e=.returned (.bool (decide (0 < (ag l name).length)))∧Sm No w w':=by
 have HV:=ns (ig w B g v l name hF hl hshort hn);clear hF hshort;go_in;go_wp2_with fail;refine HV.out.mono ?_;rintro e w1 ⟨vs,rfl,hO,hs⟩;obtain⟨A,c,rfl,_⟩:=ak hO;have HS:=ns hs;clear hO hs;go_wp2_with fail
 all_goals
  go_ret;exact⟨gq (by simp;try omega),HS.out⟩
theorem rK.row2{w:World}{B:Nat}{v:Value}{l:List aJ}(h:rK w B v l):∃ A c,v=.slice A l.length c∧dM w A l∧(∀ a,A=some a→B≤a.block∧a.block < w.heap.size):=by
 obtain⟨A,c,rfl,hR⟩:=h.row;refine⟨A,c,rfl,hR,fun a ha=> ?_⟩;subst ha;exact World.ownsRow.lt h a.block rfl
theorem fJ{s t:ByteArray}{r:Bool}(h:Hid (bA s.data.toList t.data.toList=r))(hs:s.size≤1000000)(ht:t.size≤1000000)(w:World):
 Calls Tryz.prog 176 #[.string s,.string t] w fun e w'=>e=.returned (.bool r)∧Sm No w w':=by
 rw [←h.out];exact Az s t hs ht w
theorem zt{ys:List (List UInt8)}{k:Nat}{y:List UInt8}(s:List UInt8)(h:ys[k]?=some y):Lib.join (ys.take (k+1)) s=if k=0 then y else Lib.join (ys.take k) s++s++y:=by
 cases ys with
 |nil=>simp at h
 |cons x r=>
  cases k with
  |zero=>simp at h;subst h;simp [Lib.join_one]
  |succ j=>
   rw [List.take_succ_cons,Lib.join_cons,if_neg (by omega),List.take_succ_cons,Lib.join_cons,Lib.joinTail_take_succ _ _ _ _ (by simpa using h)];simp [List.append_assoc]
theorem mK.row{w:World}{B:Nat}{v:Value}{l:List ByteArray}(h:mK w B v l):∃ A c,v=.slice A l.length c∧fD w A l:=by
 obtain⟨A,c,rfl,hR,_⟩:=ak h;refine⟨A,c,rfl,fun k hk=> ?_⟩;obtain⟨bb,off,hA,hb,h1⟩:=hR k (.string l[k]) (by simp [hk]);exact⟨bb,off,hA,hb,h1⟩
theorem is(a b:ByteArray):(a++b).data.toList=a.data.toList++b.data.toList:=by simp
def wW(xs:List ByteArray)(s i:Value):Prop:=∃ (k:Nat) (t:ByteArray),k≤xs.length∧i=.int .i64 k∧s=.string t∧t.data.toList=Lib.join ((xs.take k).map (·.data.toList)) iV∧t.size≤1000002 * k
end Go.Proofs.YtcflkcbogofgbaaGreatDoor
