import Derived.Test.YtadcjgopaadfjaaGreatDoorQA
import Derived.ChangeSame
import Derived.ProofKit
import Derived.Test.YtadcjgopaadfjaaGreatDoorProg
import Derived.ReadAgain
import Derived.Carry
import Derived.ShutString
import Derived.OpenShut
import Derived.Test.YtadcjgopaadfjaaGreatDoorQO
import Derived.Test.YtadcjgopaadfjaaGreatDoorQShelf
import Derived.Test.YtadcjgopaadfjaaGreatDoorCards
import Derived.Test.YtadcjgopaadfjaaGreatDoorQD
namespace Go.Proofs.YtadcjgopaadfjaaGreatDoor
open Go.RowKit Go.WideShapes Go.ChangeShapes Go.Proofs
section
variable {H:Type} {enc:TypeId × Value→H} {P:Program}
theorem vR {f:Func} {s:ChangeSpec} {apart fresh handsOn again:Bool} {W W':World} {args:Array Value} {v:Value} {ds gs:List (DataW H)} {before pa pv:List MemPlace}
 (hW:DataW.Whole enc P f.params.toList s.vars apart W args.toList ds gs before)
 (hres:∀ (b:Nat) (sp:Nat→Bool) (hd:Bool),DataW.TrodAll enc P W' b sp hd f.resultTypes.toList (v.resultList f.resultTypes.size) (s.fn H (ds++gs)).results [])
 (hargs:∀ sp:Nat→Bool,(∀ p∈before,sp p.block=true)→DataW.TrodAll enc P W' 0 sp true f.params.toList args.toList (s.fn H (ds++gs)).args pa)
 (hvars:∀ sp:Nat→Bool,(∀ p∈before,sp p.block=true)→DataW.TrodVars enc P W' sp s.vars (s.fn H (ds++gs)).vars pv)
 (hps:before=pa++pv) (hs:Sm No W W')
 (hok:∀ (j:Nat) (t:TypeId) (r:Value),f.resultTypes[j]?=some t→(v.resultList f.resultTypes.size)[j]?=some r→Value.okWide P W' .any 0 t r):
 s.post enc P f apart fresh handsOn again W args v W':=by
 have hb:=hs.bel;have hlt:∀ p∈before,p.block < W.heap.size:=fun p hp=>hW.lt p hp;have hold:∀ p∈before,(fun b=>decide (b < W.heap.size)) p.block=true:=fun p hp=>by simpa using hlt p hp
 refine⟨ds,gs,before,[],pa,pv,hW,hres _ _ _,hargs _ hold,hvars _ hold,World.keptBut_mono (fun p hp=>⟨hp,?_⟩) (hb.frame (·∈before)),fun _=> ?_⟩
 ·rw [hps,List.mem_append] at hp;exact Or.inr hp
 ·obtain⟨_,_,_,_,_,hz,hn⟩:=hW;refine⟨hok,_,_,([]++pa)++pv,⟨[]++pa,pv,trodAll_append (hargs _ (fun _ _=>rfl)) (hres _ _ _),hvars _ (fun _ _=>rfl),rfl,?_,?_⟩,?_⟩
  ·intro b off hp;have hin:MemPlace.cell b off∈before:=by rw [hps];simpa using hp
   rw [hb.frozen (hlt _ hin)];exact hz b off hin
  ·intro ha;have:=hn ha;rw [hps] at this;simpa using this
  ·intro p hp _;rw [hps];simpa using hp
end
theorem GU:Kids Tryz.prog (·< Tryz.prog.types.size):=kids_rows (by kernel_rfl) (by kernel_rfl)
theorem Ft:∀ t e,t < Tryz.prog.types.size→Tryz.prog.underlying t=some (.slice e)→0 < Tryz.prog.cellsOf e:=slices_full_of Tryz.prog (by kernel_rfl)
section
variable {H:Type} {enc:TypeId × Value→H} {P:Program}
theorem jl{w w':World}{base:Nat}{spare:Nat→Bool}{held:Bool}:∀ {ts:List TypeId} {vs:List Value} {ds:List (DataW H)} {ps:List MemPlace},
 DataW.TrodAll enc P w base spare held ts vs ds ps→(∀ p∈ps,w.sameAt w' p)→DataW.TrodAll enc P w' base spare held ts vs ds ps
 |[],[],[],_,h,_=>h
 |_::_,_::_,_::_,_,⟨p,q,⟨n,h1⟩,h2,e⟩,hs=>⟨p,q,⟨n,DataW.trod_carry n _ _ _ h1 (fun x hx=>hs x (by rw [e];exact List.mem_append_left _ hx))⟩,jl h2 (fun x hx=>hs x (by rw [e];exact List.mem_append_right _ hx)),e⟩
theorem qj {f:Func} {s:ChangeSpec} {apart fresh handsOn again:Bool} {W W':World} {args:Array Value} {ds gs:List (DataW H)} {before:List MemPlace} {tb:TypeId}
 (K:Kids P (·< P.types.size)) (Ft:∀ t e,t < P.types.size→P.underlying t=some (.slice e)→0 < P.cellsOf e) (hp:∀ t∈f.params.toList,t < P.types.size)
 (hW:DataW.Whole enc P f.params.toList s.vars apart W args.toList ds gs before) (hsv:s.vars=[]) (hfn:(s.fn H ds).args=ds∧(s.fn H ds).vars=[]∧(s.fn H ds).results=[.lit (.bool true)])
 (htb:P.underlying tb=some .bool) (hrt:f.resultTypes=#[tb]) (hs:Sm No W W'):
 s.post enc P f apart fresh handsOn again W args (.bool true) W':=by
 have hW0:=hW;obtain⟨p,q,hA,hV,rfl,hz,hn⟩:=hW;rw [hsv] at hV;obtain⟨rfl,rfl⟩:=trodVars_none hV;have hlt:∀ x∈p++[],x.block < W.heap.size:=fun x hx=>hW0.lt x hx;have hb:=hs.bel;obtain⟨f1,f2,f3⟩:=hfn;rw [←List.append_nil ds] at f1 f2 f3;refine vR (pa:=p) (pv:=[]) hW0 (fun b sp hd=> ?_) (fun sp hsp=> ?_) (fun _ _=> ?_) rfl hs (ok_one hrt rfl (okWide_bool_mk htb _))
 ·rw [f3,hrt];exact trodAll_cons_mk (shut_bool htb _) trodAll_mk0
 ·rw [f1,List.append_nil];exact(jl hA (fun x hx=>hb.same (hlt x (by simpa using hx)))).respare K Ft hp (fun x hx=>hsp x (by simpa using hx))
 ·rw [f2,hsv];rfl
end
end Go.Proofs.YtadcjgopaadfjaaGreatDoor
namespace Go.Proofs.YtadcjgopaadfjaaGreatDoor
open Go.RowKit Go.Proofs
theorem EQ{w:World}(h:w.ShapedOpen Tryz.prog):G0 w:=
 Go.Proofs.cell_of_shapedOpen_int (zero:=#[.int .i64 0]) (t:=3) h (of_decide_eq_true (by kernel_rfl)) (by kernel_rfl) rfl (by kernel_rfl) (by kernel_rfl) Tryz.underlying3
theorem zq{P:Program}{w:World}{x:String × DataW Unit}{l:List (String × DataW Unit)}(h:laidMet P (x::l) w):laidMet P l w:=by
 obtain⟨n,d⟩:=x;obtain⟨ps,⟨g,t,cs,bY,p,q,h1,h2,h3,h4,h5,rfl⟩,hn,hall⟩:=h;exact⟨q,h5,(List.nodup_append.1 hn).2.1,fun b off hm=>hall b off (List.mem_append_right _ hm)⟩
theorem rV{P:Program}{w:World}:∀ {l:List (String × DataW Unit)} {i:Nat} {x:String × DataW Unit},laidMet P l w→l[i]?=some x→∃ rest,laidMet P (x::rest) w
 |_::r,0,_,h,e=>by
  injection e with e;subst e;exact⟨r,h⟩
 |_::_,_+1,_,h,e=>rV (zq h) (by simpa using e)
theorem FY{w:World}(h:w.ShapedOpen Tryz.prog){l:List (String × DataW Unit)}(hL:laidMetH Tryz.prog l w)(hh:(l.filter fun x=>x.2.handleName?.isSome)=[])(h2:l[2]?=some ("internal/strconv.uint64pow10",Lib.tabData .u64 Lib.pow10Tab)):G1 w:=by
 unfold laidMetH at hL;rw [hh] at hL;obtain⟨rest,hR⟩:=rV hL h2;exact⟨EQ h,Lib.tabIs_of_head (g:=1) (t:=272) (e:=251) (n:=20) (by kernel_rfl) rfl (by kernel_rfl) (by kernel_rfl) (by kernel_rfl) (by kernel_rfl) hR⟩
def pc(cs:Array Value):Obj→Obj
 | .cells _ t frozen=>.cells cs t frozen
 |o=>o
def FO:DataW Unit→List Value
 | .lit (.int k n)=>[.int k n]
 |_=>[]
def GC:DataW Unit→List Value
 | .agg l=>l.flatMap FO
 |d=>FO d
def GO:DataW Unit→List Value
 | .agg l=>l.flatMap GC
 |d=>FO d
def BD(w:World)(g:Nat)(d:DataW Unit):World:= {w with heap:=w.heap.modify g (pc (GO d).toArray)}
abbrev Fk:ByteArray:= {data:=#[118,97,108,117,101,32,111,117,116,32,111,102,32,114,97,110,103,101]}
abbrev DU:ByteArray:= {data:=#[105,110,118,97,108,105,100,32,115,121,110,116,97,120]}
noncomputable def Gn:Nat:=(World.holding Tryz.prog default ⟨#[],#[],[]⟩).heap.size
def F1(w:World)(g:Nat)(v:Value):World:= {w with heap:=w.heap.modify g (pc #[v])}
noncomputable def ju(os:Os):World:=
 F1 (F1 (BD (BD (BD (BD (BD (World.holding Tryz.prog os ⟨#[.cells #[.string Fk] 333,.cells #[.string DU] 333],#[],[]⟩) 4 Rows.laid_math_bits_deBruijn32tab) 5 Rows.laid_math_bits_deBruijn64tab) 1 Rows.laid_internal_strconv_uint64pow10) 3 Rows.laid_unicode_utf8_acceptRanges) 2 Rows.laid_unicode_utf8_first)
  7 (.iface 331 (.pointer (some ⟨Gn,0,none⟩)))) 6 (.iface 331 (.pointer (some ⟨Gn+1,0,none⟩)))
end Go.Proofs.YtadcjgopaadfjaaGreatDoor
