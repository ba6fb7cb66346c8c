import Derived.Test.YtadcjgopaadfjaaGreatDoorQA
import Derived.OwnWalk
import Derived.Maps.AppendAt
import Derived.Deep.AppendLies
import Derived.Laws.AppendOwnNone
import Derived.Laws.AppendOwn
import Derived.Lib.FrozenHead
import Derived.OpenShut
import Derived.Deep.Slices
import Derived.SizedLaws
import Derived.Test.YtadcjgopaadfjaaGreatDoorQF
import Derived.Deep.Upon
namespace Go.Proofs.YtadcjgopaadfjaaGreatDoor
open Go.RowKit Go.Proofs
section
variable {S:Nat→Prop} {w w':World} {B size n:Nat} {t:TypeId} {v:Value} {xs:List Value}
theorem ae(h:w.ownsRow B t size v n xs)(hs:Sm S w w')(hS:∀ b,v.ownBlock=some b→¬S b):w'.ownsRow B t size v n xs:=by
 obtain⟨h1,h2⟩:=h;refine⟨h1,?_⟩;rcases h2 with h2|⟨g,cap,cur,hv,hg,hh,r⟩
 ·exact Or.inl h2
 ·refine Or.inr ⟨g,cap,cur,hv,hg,?_,r⟩;rw [hs.block g (Array.getElem?_eq_some_iff.1 hh).1 (hS g (by rw [hv];rfl))];exact hh
theorem bI{C:Nat}(h:w.ownsRow B t size v n xs)(hC:∀ b,v.ownBlock=some b→C≤b):w.ownsRow C t size v n xs:=by
 obtain⟨h1,h2⟩:=h;refine⟨h1,?_⟩;rcases h2 with h2|⟨g,cap,cur,hv,hg,hh,r⟩
 ·exact Or.inl h2
 ·exact Or.inr ⟨g,cap,cur,hv,hC g (by rw [hv];rfl),hh,r⟩
theorem aK(h:w.ownsRow B t size v n xs):(v=.slice none 0 0∧n=0∧xs=[])∨∃ g cap,v=.slice (some ⟨g,0,none⟩) n cap∧v.ownBlock=some g∧B≤g∧g < w.heap.size∧n≤cap∧(∀ j u,xs[j]?=some u→w.cell? ⟨g,j,none⟩=some u)∧∀ j,w.frozen? ⟨g,j,none⟩=false:=by
 have h0:=h;rcases h.2 with ⟨h1,h2⟩|⟨g,cap,cur,hv,hg,hh,hcap,hm,hcs,hcell⟩
 ·refine Or.inl ⟨h1,h2,?_⟩;have:=h.1;rw [h2,Nat.zero_mul] at this;exact List.eq_nil_of_length_eq_zero this
 ·subst hv;refine Or.inr ⟨g,cap,rfl,rfl,hg,(Array.getElem?_eq_some_iff.1 hh).1,hcap,fun j u hj=> ?_,fun j=>World.ownsRow.frozenAt h0 j⟩;have hx:=World.ownsRow.cells h0 (g:=g) rfl j u hj;have hadd:(⟨g,0,none⟩:Addr).add j=⟨g,j,none⟩:=by unfold Addr.add;split<;>simp_all
  rwa [hadd] at hx
end
section
variable {P:Program} {ops:Array Oper} {rest:List Oper} {o:Oper} {a:Act} {w:World} {Q:Exit→Act→World→Prop}
theorem aY (hgd:o.guard=none) (s x:Operand) (st t:TypeId)
 (ho:o.op=.call {callee:=.builtin .append,args:=#[s,x],argTypes:=#[st,st]}) (ht:P.underlying st=some (.slice t))
 (z:Value) (size bytes:Nat) (hi:(P.info? t).map (fun i=>(i.zero,i.size,i.bytes))=some (some z,size,bytes)) (hzs:z.cells.size=size) (hsz:0 < size) (hby:bytes≤1000)
 (B n:Nat) (v:Value) (xs:List Value) (hs:a.eval s=v) (hown:w.ownsRow B t size v n xs)
 (g:Nat) (cs:Array Value) (hx:a.eval x=.slice (some ⟨g,0,none⟩) 1 1) {tt:TypeId} (hb:Bk w g tt cs) (hcs:cs.size=size) (h1:∀ u∈cs.toList,u.oneCell'=true) (hn:n≤1000000) (hB:B≤w.heap.size)
 (h:∀ v' w',w'.ownsRow B t size v' (n+1) (xs++cs.toList)→Sm (fun b=>v.ownBlock=some b) w w'→(v'.ownBlock=v.ownBlock∨v'.ownBlock=some w.heap.size)→wpList P ops Q rest (a.put o.dst v') w'):wpList P ops Q (o::rest) a w:=by
 obtain⟨i0,hi0,hz0,hz1,hz2⟩:=info_parts hi;refine wpList_append_own_at _ hgd s x st ho B t i0 z size bytes ht hi0 hz0 hz1 hz2 hzs hsz v n xs hs hown ⟨g,0,none⟩ 1 1 cs.toList hx (by simp [hcs]) (fun j u hj=> ?_) h1 (by unfold maxLen;omega) ?_ hB ?_
 ·have hadd:(⟨g,0,none⟩:Addr).add j=⟨g,j,none⟩:=by unfold Addr.add;split<;>simp_all
  rw [hadd];exact hb.at j (by simpa using hj)
 ·have:(n+1) * bytes≤1000001 * 1000:=Nat.mul_le_mul (by omega) hby;omega
 ·intro v' w' h2 h3 _ h5;exact h v' w' h2 ((Sm.refl _ w).grown h3 (fun k hk=>Or.inl hk)) h5
theorem gk {E:Prop} {K:Act→World→Prop} (hgd:o.guard=none) (s x:Operand) (st t:TypeId)
 (ho:o.op=.call {callee:=.builtin .append,args:=#[s,x],argTypes:=#[st,st]}) (ht:P.underlying st=some (.slice t))
 (z:Value) (size bytes:Nat) (hi:(P.info? t).map (fun i=>(i.zero,i.size,i.bytes))=some (some z,size,bytes)) (hzs:z.cells.size=size) (hsz:0 < size) (hby:bytes≤1000)
 (B n:Nat) (v:Value) (xs:List Value) (hs:a.eval s=v) (hown:w.ownsRow B t size v n xs)
 (g:Nat) (cs:Array Value) (hx:a.eval x=.slice (some ⟨g,0,none⟩) 1 1) {tt:TypeId} (hb:Bk w g tt cs) (hcs:cs.size=size) (h1:∀ u∈cs.toList,u.oneCell'=true) (hn:n≤1000000) (hB:B≤w.heap.size)
 (h:∀ r cap w',w'.ownsRow B t size (.slice (some ⟨r,0,none⟩) (n+1) cap) (n+1) (xs++cs.toList)→Sm (fun b=>v.ownBlock=some b) w w'→(v.ownBlock=some r∨r=w.heap.size)→K (a.put o.dst (.slice (some ⟨r,0,none⟩) (n+1) cap)) w'):
 if Region.wanted o (yielded ops a.tmps)=true then Oper.wp P o a w K Q else E:=by
 obtain⟨i0,hi0,hz0,hz1,hz2⟩:=info_parts hi;refine step_append_lies _ hgd s x st ho B t i0 z size bytes ht hi0 hz0 hz1 hz2 hzs hsz v n xs hs hown ⟨g,0,none⟩ 1 1 cs.toList hx (by simp [hcs]) (fun j u hj=> ?_) h1 (by decide) (by unfold maxLen;omega) ?_ hB w.heap.size rfl ?_
 ·have hadd:(⟨g,0,none⟩:Addr).add j=⟨g,j,none⟩:=by unfold Addr.add;split<;>simp_all
  rw [hadd];exact hb.at j (by simpa using hj)
 ·have:(n+1) * bytes≤1000001 * 1000:=Nat.mul_le_mul (by omega) hby;omega
 ·intro r cap w' h2 h3 h5 _;exact h r cap w' h2 ((Sm.refl _ w).grown h3 (fun k hk=>Or.inl hk)) h5
end
def ax(w:World)(A:Option Addr)(cs:List Value):Prop:=
 ∀ (j:Nat) (u:Value),cs[j]?=some u→∃ bb off,A=some ⟨bb,off,none⟩∧bb < w.heap.size∧w.cell? ⟨bb,off+j,none⟩=some u
section
variable {S:Nat→Prop} {w w':World} {A:Option Addr} {cs:List Value}
theorem ax.sm(h:ax w A cs)(hs:Sm S w w')(hA:∀ a,A=some a→¬S a.block):ax w' A cs:=by
 intro j u hj;obtain⟨bb,off,hA',hb,h1⟩:=h j u hj;exact⟨bb,off,hA',Nat.lt_of_lt_of_le hb hs.size,(World.cell?_of_block (w:=w) (a:=⟨bb,_,none⟩) (hs.block bb hb (hA _ hA'))).trans h1⟩
theorem ax.no(h:ax w A cs)(hs:Sm No w w'):ax w' A cs:=h.sm hs (fun _ _ h=>h)
theorem ax.nil(w:World)(A:Option Addr):ax w A []:=fun j u h=>by cases h
theorem ax.news(h:ax w A cs){a:Addr}(hA:A=some a):∀ j u,cs[j]?=some u→w.cell? (a.add j)=some u:=by
 intro j u hj;obtain⟨bb,off,hA',_,h1⟩:=h j u hj;rw [hA] at hA';injection hA' with e;subst e;rw [Go.WideShapes.add_plain];exact h1
theorem au{B size n:Nat}{t:TypeId}{v:Value}{xs:List Value}(h:w.ownsRow B t size v n xs):∃ A c,v=.slice A n c∧ax w A xs∧n≤c∧(A=none→c=0):=by
 rcases aK h with ⟨rfl,rfl,rfl⟩|⟨b,cap,rfl,_,_,hb,hc,hx,_⟩
 ·exact⟨none,0,rfl,ax.nil _ _,Nat.le_refl _,fun _=>rfl⟩
 ·exact⟨_,_,rfl,fun j u hj=>⟨b,0,rfl,hb,by simpa using hx j u hj⟩,hc,fun h=>by cases h⟩
theorem gg(w:World)(t:TypeId)(size:Nat){B:Nat}(hB:B≤w.heap.size):(w.alloc (.cells #[] t)).ownsRow B t size (.slice (some ⟨w.heap.size,0,none⟩) 0 0) 0 []:=by
 refine⟨by simp,Or.inr ⟨w.heap.size,0,#[],rfl,hB,heap_alloc_new w _,Nat.le_refl _,?_⟩⟩;simp [maxLen]
end
section
variable {P:Program} {ops:Array Oper} {rest:List Oper} {o:Oper} {a:Act} {w:World} {Q:Exit→Act→World→Prop}
theorem eZ (hgd:o.guard=none) (s x:Operand) (st t:TypeId)
 (ho:o.op=.call {callee:=.builtin .append,args:=#[s,x],argTypes:=#[st,st]}) (ht:P.underlying st=some (.slice t))
 (z:Value) (size bytes:Nat) (hi:(P.info? t).map (fun i=>(i.zero,i.size,i.bytes))=some (some z,size,bytes)) (hzs:z.cells.size=size) (hsz:0 < size) (hby:bytes≤1000)
 (B n:Nat) (v:Value) (xs:List Value) (hs:a.eval s=v) (hown:w.ownsRow B t size v n xs)
 (ad:Addr) (m c:Nat) (news:List Value) (hx:a.eval x=.slice (some ad) m c) (hl:news.length=m * size) (hrow:ax w (some ad) news) (h1:∀ u∈news,u.oneCell'=true) (hn:n+m≤1000001) (hB:B≤w.heap.size)
 (h:∀ v' w',w'.ownsRow B t size v' (n+m) (xs++news)→Sm (fun b=>v.ownBlock=some b) w w'→(v'.ownBlock=v.ownBlock∨v'.ownBlock=some w.heap.size)→(v'=.slice none 0 0↔v=.slice none 0 0∧m=0)→wpList P ops Q rest (a.put o.dst v') w'):wpList P ops Q (o::rest) a w:=by
 obtain⟨i0,hi0,hz0,hz1,hz2⟩:=info_parts hi;refine wpList_append_own_at _ hgd s x st ho B t i0 z size bytes ht hi0 hz0 hz1 hz2 hzs hsz v n xs hs hown ad m c news hx hl (hrow.news rfl) h1 (by unfold maxLen;omega) ?_ hB ?_
 ·have:(n+m) * bytes≤1000001 * 1000:=Nat.mul_le_mul (by omega) hby;omega
 ·intro v' w' h2 h3 h4 h5;exact h v' w' h2 ((Sm.refl _ w).grown h3 (fun k hk=>Or.inl hk)) h5 h4
end
section
variable {P:Program} {ops:Array Oper} {rest:List Oper} {o:Oper} {a:Act} {w:World} {Q:Exit→Act→World→Prop}
theorem bE (hgd:o.guard=none) (s x:Operand) (st t:TypeId)
 (ho:o.op=.call {callee:=.builtin .append,args:=#[s,x],argTypes:=#[st,st]}) (ht:P.underlying st=some (.slice t))
 (z:Value) (size bytes:Nat) (hi:(P.info? t).map (fun i=>(i.zero,i.size,i.bytes))=some (some z,size,bytes)) (hzs:z.cells.size=size) (hsz:0 < size) (hby:bytes≤1000)
 (B n:Nat) (v:Value) (xs:List Value) (hs:a.eval s=v) (hown:w.ownsRow B t size v n xs)
 (A:Option Addr) (m c:Nat) (news:List Value) (hx:a.eval x=.slice A m c) (h0:A=none→m=0∧c=0) (hl:news.length=m * size) (hrow:ax w A news) (h1:∀ u∈news,u.oneCell'=true) (hn:n+m≤1000001) (hB:B≤w.heap.size)
 (h:∀ v' w',w'.ownsRow B t size v' (n+m) (xs++news)→Sm (fun b=>v.ownBlock=some b) w w'→(v'.ownBlock=v.ownBlock∨v'.ownBlock=some w.heap.size)→wpList P ops Q rest (a.put o.dst v') w'):wpList P ops Q (o::rest) a w:=by
 cases A with
 |some ad=>exact eZ hgd s x st t ho ht z size bytes hi hzs hsz hby B n v xs hs hown ad m c news hx hl hrow h1 hn hB (fun v' w' a1 a2 a3 _=>h v' w' a1 a2 a3)
 |none=>
  obtain⟨rfl,rfl⟩:=h0 rfl;have hnn:news=[]:=List.eq_nil_of_length_eq_zero (by rw [hl];simp);subst hnn;obtain⟨i0,hi0,hz0,hz1,hz2⟩:=info_parts hi;refine wpList_plain hgd fun K hK=> ?_;have hr:=run_append_owned_none (P:=P) (w:=w) B st o.type t i0 size ht hi0 v n xs hown;unfold Oper.wp execOp;simp only [ho,resolve,invoke,builtin,Sem.run_bind,Sem.run_pure,Result.andThen_ok,List.map_toArray,List.map_cons,List.map_nil,hs,hx,hr];exact hK _ _ (h v w (by simpa using hown) (Sm.refl _ _) (Or.inl rfl))
end
def aH(w:World)(base:Nat)(e:TypeId)(size:Nat)(v:Value)(n:Nat)(xs:List Value):Prop:=
 xs.length=n * size∧((v=.slice none 0 0∧n=0)∨
  ∃ g cap cur fz,v=.slice (some ⟨g,0,none⟩) n cap∧base≤g∧w.heap[g]?=some (.cells cur e fz)∧(fz.2=0∨cur.size≤fz.1)∧n≤cap∧cap≤maxLen∧cur.size=cap * size∧cur.toList.take (n * size)=xs)
section
variable {S:Nat→Prop} {w w':World} {B size n:Nat} {t:TypeId} {v:Value} {xs:List Value}
theorem aH.of(h:w.ownsRow B t size v n xs):aH w B t size v n xs:=by
 refine⟨h.1,?_⟩;rcases h.2 with h2|⟨g,cap,cur,hv,hb,hg,rest⟩
 ·exact Or.inl h2
 ·exact Or.inr ⟨g,cap,cur,(0,0),hv,hb,hg,Or.inl rfl,rest⟩
theorem aH.nil(w:World)(B:Nat)(t:TypeId)(size:Nat):aH w B t size (.slice none 0 0) 0 []:=aH.of (World.ownsRow_nil _ _ _ _)
theorem aH.sm(h:aH w B t size v n xs)(hs:Sm S w w')(hS:∀ b,v.ownBlock=some b→¬S b):aH w' B t size v n xs:=by
 obtain⟨h1,h2⟩:=h;refine⟨h1,?_⟩;rcases h2 with h2|⟨g,cap,cur,fz,hv,hg,hh,r⟩
 ·exact Or.inl h2
 ·refine Or.inr ⟨g,cap,cur,fz,hv,hg,?_,r⟩;rw [hs.block g (Array.getElem?_eq_some_iff.1 hh).1 (hS g (by rw [hv];rfl))];exact hh
theorem aH.no(h:aH w B t size v n xs)(hs:Sm No w w'):aH w' B t size v n xs:=h.sm hs (fun _ _ h=>h)
theorem aH.base{C:Nat}(h:aH w B t size v n xs)(hC:∀ b,v.ownBlock=some b→C≤b):aH w C t size v n xs:=by
 obtain⟨h1,h2⟩:=h;refine⟨h1,?_⟩;rcases h2 with h2|⟨g,cap,cur,fz,hv,hg,hh,r⟩
 ·exact Or.inl h2
 ·exact Or.inr ⟨g,cap,cur,fz,hv,hC g (by rw [hv];rfl),hh,r⟩
theorem aH.lt(h:aH w B t size v n xs):∀ b,v.ownBlock=some b→B≤b∧b < w.heap.size:=by
 intro b hb;rcases h.2 with ⟨h1,h2⟩|⟨g,cap,cur,fz,hv,hg,hh,r⟩
 ·rw [h1] at hb;cases hb
 ·subst hv;injection hb with hb;have hb:g=b:=hb;subst hb;exact⟨hg,(Array.getElem?_eq_some_iff.1 hh).1⟩
theorem aH.form(h:aH w B t size v n xs):(v=.slice none 0 0∧n=0∧xs=[])∨∃ g cap,v=.slice (some ⟨g,0,none⟩) n cap∧B≤g∧g < w.heap.size∧n≤cap∧cap≤maxLen∧(∀ j u,xs[j]?=some u→w.cell? ⟨g,j,none⟩=some u)∧∀ j,j < n * size→w.frozen? ⟨g,j,none⟩=false:=by
 rcases h.2 with ⟨h1,h2⟩|⟨g,cap,cur,fz,hv,hg,hh,hf,hc,hm,hcs,htk⟩
 ·refine Or.inl ⟨h1,h2,?_⟩;have:=h.1;rw [h2,Nat.zero_mul] at this;exact List.eq_nil_of_length_eq_zero this
 ·have hle:n * size≤cur.size:=by rw [hcs];exact Nat.mul_le_mul_right _ hc
  refine Or.inr ⟨g,cap,hv,hg,(Array.getElem?_eq_some_iff.1 hh).1,hc,hm,fun j u hu=> ?_,fun j hj=> ?_⟩
  ·rw [cell_of_row w g j cur t fz hh];rw [←htk,List.getElem?_take] at hu;split at hu
   ·simpa using hu
   ·cases hu
  ·obtain⟨lo,hi⟩:=fz;simp only [World.frozen?,hh,Bool.and_eq_false_iff,decide_eq_false_iff_not];simp only at hf;omega
theorem aH.row(h:aH w B t size v n xs):∃ A c,v=.slice A n c∧ax w A xs∧n≤c∧(A=none→c=0):=by
 rcases h.form with ⟨rfl,rfl,rfl⟩|⟨g,cap,rfl,_,hb,hc,_,hx,_⟩
 ·exact⟨none,0,rfl,ax.nil _ _,Nat.le_refl _,fun _=>rfl⟩
 ·exact⟨_,_,rfl,fun j u hj=>⟨g,0,rfl,hb,by simpa using hx j u hj⟩,hc,fun h=>by cases h⟩
theorem aH.setAt(h:aH w B t size v n xs){g:Nat}(hg:v.ownBlock=some g)(i:Nat)(hi:i < n * size)(u:Value):aH (w.setCell ⟨g,i,none⟩ u) B t size v n (xs.set i u):=by
 rcases h.2 with ⟨h1,h2⟩|⟨g',cap,cur,fz,hv,hb,hh,hf,hc,hm,hcs,htk⟩
 ·rw [h1] at hg;cases hg
 ·subst hv;have e:g'=g:=by injection hg
  subst e;refine⟨by rw [List.length_set];exact h.1,Or.inr ⟨g',cap,cur.setIfInBounds i u,fz,rfl,hb,?_,by simpa using hf,hc,hm,by simpa using hcs,?_⟩⟩
  ·simp [World.setCell,Array.getElem?_modify,hh]
  ·rw [Array.toList_setIfInBounds,←htk];apply List.ext_getElem?;intro j;simp only [List.getElem?_take,List.getElem?_set,List.length_take,Array.length_toList];by_cases hj:j < n * size
   ·simp only [hj,if_true];by_cases hij:i=j
    ·have hle:n * size≤cur.size:=by rw [hcs];exact Nat.mul_le_mul_right _ hc
     simp only [hij,if_true];rw [if_pos (by omega),if_pos (by omega)]
    ·simp [hij]
   ·rw [if_neg hj];by_cases hij:i=j
    ·omega
    ·simp [hij,hj]
end
theorem fy(P:Program)(g o:Nat)(t:TypeId)(fz:Nat × Nat):∀ (vs:List Value) (i:Nat) (cur:Array Value) (w:World),w.heap[g]?=some (.cells cur t fz)→cur.size≤fz.1→o+i+vs.length≤cur.size→(∀ v∈vs,v.oneCell'=true)→
 (storeCells ⟨g,o,none⟩ vs i).run P w=.ok () (w.setRow g (cur.toList.take (o+i)++vs++cur.toList.drop (o+i+vs.length)).toArray)
 |[],i,cur,w,hg,_,_,_=>by
  simp only [storeCells,List.append_nil,List.length_nil,Nat.add_zero,List.take_append_drop,Array.toArray_toList];rw [setRow_self w g cur t fz hg];rfl
 |v::rest,i,cur,w,hg,hfz,hl,h1=>by
  have hi:o+i < cur.size:=by simp at hl;omega
  have hadd:(⟨g,o,none⟩:Addr).add i=⟨g,o+i,none⟩:=by unfold Addr.add;split<;>simp_all
  have hcell:w.cell? ⟨g,o+i,none⟩=some cur[o+i]:=by simp [World.cell?,hg,hi]
  have hfro:w.frozen? ⟨g,o+i,none⟩=false:=by
   obtain⟨lo,hi'⟩:=fz;simp only [World.frozen?,hg,Bool.and_eq_false_iff,decide_eq_false_iff_not];left;simp only at hfz;omega
  have hst:(store ((⟨g,o,none⟩:Addr).add i) v).run P w=.ok () (w.setRow g (cur.setIfInBounds (o+i) v)):=by
   rw [hadd,run_store P w _ v _ (h1 v (by simp)),hcell];simp [hfro,setCell_eq_setRow w g (o+i) cur t fz v hg]
  have ih:=fy P g o t fz rest (i+1) (cur.setIfInBounds (o+i) v) (w.setRow g (cur.setIfInBounds (o+i) v)) (setRow_heap w g cur _ t _ hg) (by simpa using hfz) (by simp at hl ⊢;omega) (fun x hx=>h1 x (by simp [hx]));simp only [storeCells,Sem.run_bind,hst,Result.andThen_ok,ih,setRow_setRow];congr 3;have e:=list_seg_step cur.toList (o+i) v rest (by simp at hl ⊢;omega);simpa [Array.toList_setIfInBounds,Nat.add_assoc] using e
section
variable {P:Program} (w:World)
theorem kY (t ty e:TypeId) (i:TypeInfo) (ht:P.underlying t=some (.slice e)) (hi:P.info? e=some i)
 (g sLen sCap:Nat) (cur:Array Value) (fz:Nat × Nat) (hg:w.heap[g]?=some (.cells cur e fz)) (hf0:fz.2=0∨cur.size≤fz.1)
 (a:Addr) (m c:Nat) (news:List Value) (hl:news.length=m * i.size) (hnews:∀ j u,news[j]?=some u→w.cell? (a.add j)=some u) (h1:∀ u∈news,u.oneCell'=true)
 (hroom:sLen+m≤sCap) (hfit:sLen * i.size+news.length≤cur.size):
 (Builtin.append_ #[t,t] ty #[.slice (some ⟨g,0,none⟩) sLen sCap,.slice (some a) m c]).run P w=
  .ok (.slice (some ⟨g,0,none⟩) (sLen+m) sCap) (w.setRow g (cur.toList.take (sLen * i.size)++news++cur.toList.drop (sLen * i.size+news.length)).toArray):=by
 have hf:=run_firstCells_some (P:=P) w i.size m a m c news hl hnews;have hst:(storeCells ⟨g,sLen * i.size,none⟩ news 0).run P w=.ok () (w.setRow g (cur.toList.take (sLen * i.size+0)++news++cur.toList.drop (sLen * i.size+0+news.length)).toArray):=by
  rcases hf0 with h|h
  ·exact run_storeCells_atF P g (sLen * i.size) e fz news 0 cur w hg (by omega) (by simpa using hfit) h1
  ·exact fy P g (sLen * i.size) e fz news 0 cur w hg h (by simpa using hfit) h1
 simp only [Nat.add_zero] at hst;simp [Builtin.append_,run_underlying ht,sizeOf,typeInfo,hi,Builtin.lenOf,hroom,hf,Addr.add_lit,hst]
theorem pQ (base:Nat) (t ty e:TypeId) (i:TypeInfo) (z:Value) (size bytes:Nat) (ht:P.underlying t=some (.slice e)) (hi:P.info? e=some i) (hz:i.zero=some z)
 (hsize:i.size=size) (hby:i.bytes=bytes) (hzs:z.cells.size=size) (hsz:0 < size)
 (v:Value) (n:Nat) (xs:List Value) (hown:aH w base e size v n xs)
 (a:Addr) (m c:Nat) (news:List Value) (hl:news.length=m * size) (hnews:∀ j u,news[j]?=some u→w.cell? (a.add j)=some u) (h1:∀ u∈news,u.oneCell'=true)
 (h63:n+m≤maxLen) (hbytes:(n+m) * bytes≤140737488355328) (hbase:base≤w.heap.size):
 ∃ v' w',(Builtin.append_ #[t,t] ty #[v,.slice (some a) m c]).run P w=.ok v' w'∧aH w' base e size v' (n+m) (xs++news)∧w.grownBy w' v.ownBlock∧
   (v'=.slice none 0 0↔v=.slice none 0 0∧m=0)∧(v'.ownBlock=v.ownBlock∨v'.ownBlock=some w.heap.size):=by
 rcases hown.2 with ⟨rfl,rfl⟩|⟨g,cap,cur,fz,rfl,hbg,hg,hfz,hnc,hcm,hcs,htake⟩
 ·obtain⟨v',w',g1,g2,g3,g4,g5⟩:=run_append_own_at (P:=P) w base t ty e i z size bytes ht hi hz hsize hby hzs hsz (.slice none 0 0) 0 xs ⟨hown.1,Or.inl ⟨rfl,rfl⟩⟩ a m c news hl hnews h1 h63 hbytes hbase;exact⟨v',w',g1,aH.of g2,g3,g4,g5⟩
 ·subst hsize;subst hby;have hsmall:n+m≤9223372036854775807:=by simp only [maxLen] at h63;omega
  have hlen:(xs++news).length=(n+m) * i.size:=by rw [List.length_append,hown.1,hl,Nat.add_mul]
  by_cases hroom:n+m≤cap
  ·have hfit:n * i.size+news.length≤cur.size:=by rw [hl,hcs,←Nat.add_mul];exact Nat.mul_le_mul_right _ hroom
   have hr:=kY (P:=P) w t ty e i ht hi g n cap cur fz hg hfz a m c news hl hnews h1 hroom hfit;have hz2:(cur.toList.take (n * i.size)++news++cur.toList.drop (n * i.size+news.length)).toArray.size=cur.size:=by
    simp only [List.size_toArray,List.length_append,List.length_take,List.length_drop,Array.length_toList];omega
   refine⟨_,_,hr,⟨hlen,.inr ⟨g,cap,_,fz,rfl,hbg,setRow_heap w g cur _ e _ hg,hfz.imp id (fun h=>by rw [hz2];exact h),hroom,hcm,hz2.trans hcs,?_⟩⟩,⟨rfl,rfl,rfl,by simp,fun k _ hk=>setRow_other w g k _ (fun e=>hk (by simp [Value.ownBlock,e]))⟩,by simp,Or.inl rfl⟩;rw [htake,←hlen];exact List.take_left
  ·have holds:∀ j u,xs[j]?=some u→w.cell? ((⟨g,0,none⟩:Addr).add j)=some u:=fun j u hu=>by
    have hadd:(⟨g,0,none⟩:Addr).add j=⟨g,j,none⟩:=by unfold Addr.add;split<;>simp_all
    rw [hadd,cell_of_row w g j cur e fz hg];rw [←htake,List.getElem?_take] at hu;split at hu
    ·simpa using hu
    ·cases hu
   have hr:=run_append_grow (P:=P) w t ty e i z ht hi hz ⟨g,0,none⟩ n cap xs hown.1 holds a m c news hl hnews (by omega) (by omega) (growslice_fits (by omega) hbytes);have hge:=grownCap_ge w (n+m) cap e;have hcm2:grownCap w (n+m) cap e≤maxLen:=grownCap_le_maxLen w (n+m) cap e h63;refine⟨_,_,hr,⟨hlen,.inr ⟨w.heap.size,_,_,(0,0),rfl,hbase,heap_alloc_new w.drew _,Or.inl rfl,hge,hcm2,?_,?_⟩⟩,⟨rfl,rfl,rfl,by simp,fun k hk _=>Below.heap_alloc w.drew _ k hk⟩,by simp,Or.inr rfl⟩
   ·simp only [Array.size_append,List.size_toArray,size_zeroCells,hzs,hown.1,hl,←Nat.add_mul];congr 1;omega
   ·simp only [Array.toList_append,List.append_assoc];rw [←List.append_assoc,←hlen];exact List.take_left
end
section
variable {P:Program} {ops:Array Oper} {rest:List Oper} {o:Oper} {a:Act} {w:World} {Q:Exit→Act→World→Prop}
theorem qp (hgd:o.guard=none) (s x:Operand) (st t:TypeId)
 (ho:o.op=.call {callee:=.builtin .append,args:=#[s,x],argTypes:=#[st,st]}) (ht:P.underlying st=some (.slice t))
 (z:Value) (size bytes:Nat) (hi:(P.info? t).map (fun i=>(i.zero,i.size,i.bytes))=some (some z,size,bytes)) (hzs:z.cells.size=size) (hsz:0 < size) (hby:bytes≤1000)
 (B n:Nat) (v:Value) (xs:List Value) (hs:a.eval s=v) (hown:aH w B t size v n xs)
 (ad:Addr) (m c:Nat) (news:List Value) (hx:a.eval x=.slice (some ad) m c) (hl:news.length=m * size) (hrow:ax w (some ad) news) (h1:∀ u∈news,u.oneCell'=true) (hn:n+m≤1000001) (hB:B≤w.heap.size)
 (h:∀ v' w',aH w' B t size v' (n+m) (xs++news)→Sm (fun b=>v.ownBlock=some b) w w'→(v'.ownBlock=v.ownBlock∨v'.ownBlock=some w.heap.size)→wpList P ops Q rest (a.put o.dst v') w'):wpList P ops Q (o::rest) a w:=by
 obtain⟨i0,hi0,hz0,hz1,hz2⟩:=info_parts hi;refine wpList_plain hgd fun K hK=> ?_;obtain⟨v',w',hr,h2,h3,_,h5⟩:=pQ (P:=P) w B st o.type t i0 z size bytes ht hi0 hz0 hz1 hz2 hzs hsz v n xs hown ad m c news hl (hrow.news rfl) h1 (by unfold maxLen;omega)
  (by have:(n+m) * bytes≤1000001 * 1000:=Nat.mul_le_mul (by omega) hby
      omega) hB
 unfold Oper.wp execOp;simp only [ho,resolve,invoke,builtin,Sem.run_bind,Sem.run_pure,Result.andThen_ok,List.map_toArray,List.map_cons,List.map_nil,hs,hx,hr];exact hK _ _ (h v' w' h2 ((Sm.refl _ w).grown h3 (fun k hk=>Or.inl hk)) h5)
def aL(l:List UInt8):List Value:=l.map fun c=>.int .u8 c.toNat
theorem pt(l:List UInt8):(aL l).length=l.length:=by simp [aL]
theorem oQ(l:List UInt8):∀ u∈aL l,u.oneCell'=true:=by
 intro u hu;obtain⟨c,_,rfl⟩:=List.mem_map.1 hu;rfl
theorem kG(l m:List UInt8):aL (l++m)=aL l++aL m:=by simp [aL]
def je(w:World)(B:Nat)(t:TypeId)(v:Value)(l:List UInt8):Prop:=aH w B t 1 v l.length (aL l)
theorem db (hgd:o.guard=none) (src dst e:TypeId) (x:Operand) (ho:o.op=.convert src dst x) (s:ByteArray) (hx:a.eval x=.string s)
 (hs:P.underlying src=some .string) (hd:P.underlying dst=some (.slice e)) (he:P.underlying e=some (.int .u8)) (B:Nat) (hB:B≤w.heap.size) (hz:s.size≤maxLen)
 (h:∀ (cap:Nat) w',je w' B e (.slice (some ⟨w.heap.size,0,none⟩) s.size cap) s.data.toList→Sm No w w'→w'.heap.size=w.heap.size+1→wpList P ops Q rest (a.put o.dst (.slice (some ⟨w.heap.size,0,none⟩) s.size cap)) w'):wpList P ops Q (o::rest) a w:=by
 refine wpList_plain hgd fun _ hK=> ?_;unfold Oper.wp execOp;simp only [ho,hx,Sem.run_bind,Sem.run_pure,run_bytes_of_string w src dst e s hs hd he,Result.andThen_ok];have hsz:s.data.size=s.size:=rfl;have hge:=grownCap_ge w s.size 0 e;have hN:(bytesRow s (grownCap w s.size 0 e)).size=grownCap w s.size 0 e:=by
  simp only [bytesRow,Array.size_append,Array.size_map,Array.size_replicate];omega
 refine hK _ _ (h _ _ ⟨?_,Or.inr ⟨w.heap.size,_,_,_,?_,hB,heap_alloc_new w.drew _,Or.inr ?_,?_,grownCap_le_maxLen w s.size 0 e hz,?_,?_⟩⟩ (((Sm.refl No w).drew).alloc _) (by simp))
 ·rw [pt,Nat.mul_one]
 ·rw [Array.length_toList,hsz]
 ·exact Nat.le_refl _
 ·rw [Array.length_toList,hsz];exact hge
 ·rw [hN,Nat.mul_one]
 ·rw [Nat.mul_one,Array.length_toList];unfold bytesRow aL;rw [Array.toList_append,List.take_append_of_le_length (by simp),List.take_of_length_le (by simp),Array.toList_map]
end
end Go.Proofs.YtadcjgopaadfjaaGreatDoor
namespace Go.Proofs.YtadcjgopaadfjaaGreatDoor
open Go.RowKit Go.WideShapes Go.ChangeShapes Go.Proofs Go.Deep
section
variable {H:Type} {enc:TypeId × Value→H} {P:Program} {w:World}
theorem iC{e:TypeId}{D:DataW H}{m:Nat}:∀ {l:List (DataW H)},D∈l→m∈D.weights P e→m∈DataW.weightsAll P e l
 |x::l,h,hm=>by
  simp only [DataW.weightsAll,List.mem_append];rcases List.mem_cons.1 h with rfl|h
  ·exact Or.inl hm
  ·exact Or.inr (iC h hm)
theorem Bt {t e:TypeId} {bY:Nat} {v:Value} {d:DataW H} {ps:List MemPlace} (ht:P.underlying t=some (.slice e)) {n:Nat} (hc:P.cellsOf e=n) (hn:0 < n)
 (h:DataW.trod enc P w 0 (fun _=>true) true bY t [v]=some (d,ps)):
 v=.slice none 0 0∨∃ (a:Addr) (len cap:Nat),v=.slice (some a) len cap∧len≤cap∧cap≤maxLen∧cap * P.bytesOf e∈d.weights P t∧
  ∀ i,i < len→∃ (bb off:Nat) (cs:List Value) (D:DataW H) (Pl:List MemPlace) (k:Nat),a=⟨bb,off,none⟩∧bb < w.heap.size∧cs.length=n∧(∀ j,j < n→w.cell? ⟨bb,off+i * n+j,none⟩=cs[j]?)∧
    DataW.trod enc P w 0 (fun _=>true) true k e cs=some (D,Pl)∧∀ m∈D.weights P e,m∈d.weights P t:=by
 rcases open_slice ht h with ⟨h1,_⟩|⟨a,len,cap,m,k,D,Pl,hcs,hb,hl,hm,hmm,hx,hall⟩
 ·left;simpa using h1
 right;simp only [if_true] at hmm;subst hmm;have hd:d=.slice ((List.range len).map D) ((List.range (m-len)).map fun j=>D (len+j)):=(Prod.ext_iff.1 hx).1;have hv:v=.slice (some a) len m:=by simpa using hcs
 have hw:d.weights P t=m * P.bytesOf e::(DataW.weightsAll P e ((List.range len).map D)++DataW.weightsAll P e ((List.range (m-len)).map fun j=>D (len+j))):=by
  rw [hd,DataW.weights];simp only [ht,List.length_map,List.length_range];rw [show len+(m-len)=m by omega]
 refine⟨a,len,m,hv,hl,hm,by rw [hw];simp,fun i hi=> ?_⟩;obtain⟨cs,h1,h2⟩:=hall i (by omega);rw [hc] at h1;obtain⟨_,hlen,hcell⟩:=World.cells?_some h1;obtain⟨c0,g1,_⟩:=hall 0 (by omega);rw [hc] at g1;obtain⟨_,glen,gcell⟩:=World.cells?_some g1;have hsp:=gcell 0 hn;rw [show c0[0]?=some (c0[0]'(by omega)) by simp] at hsp;obtain⟨bb,off,spot⟩:=a;have hspot:spot=none:=by
  have:=World.cell?_spot hsp;simpa [Addr.add] using this
 subst hspot;have hblk:bb < w.heap.size:=by
  have:=World.block_lt_of_cell? w _ hsp;simpa [Addr.add] using this
 refine⟨bb,off,cs,D i,Pl i,k,rfl,hblk,hlen,fun j hj=> ?_,h2,fun x hx'=> ?_⟩
 ·have:=hcell j hj;rw [add_add,add_plain,←Nat.add_assoc] at this;exact this
 ·rw [hw];refine List.mem_cons_of_mem _ (List.mem_append_left _ (iC (List.mem_map.2 ⟨i,List.mem_range.2 hi,rfl⟩) hx'))
end
section
variable {H:Type} {enc:TypeId × Value→H} {P:Program} {w:World}
end
def gE(w:World)(A:Option Addr)(l:List ByteArray):Prop:=
 ∀ k,(h:k < l.length)→∃ bb off,A=some ⟨bb,off,none⟩∧bb < w.heap.size∧w.cell? ⟨bb,off+k,none⟩=some (.string l[k])
def FB(w:World)(A:Option Addr)(l:List ByteArray)(c:Nat):Prop:=
 gE w A l∧l.length≤c∧c≤8796093022208∧(∀ x∈l,x.size≤140737488351232)∧(A=none→c=0)
theorem gE.sm{S:Nat→Prop}{w w':World}{A:Option Addr}{l:List ByteArray}(h:gE w A l)(hs:Sm S w w')(hA:∀ a,A=some a→¬S a.block):gE w' A l:=by
 intro k hk;obtain⟨bb,off,hA',hb,h1⟩:=h k hk;have e:=hs.block bb hb (hA _ hA');exact⟨bb,off,hA',Nat.lt_of_lt_of_le hb hs.size,(World.cell?_of_block (w:=w) (a:=⟨bb,_,none⟩) e).trans h1⟩
theorem gE.no{w w':World}{A:Option Addr}{l:List ByteArray}(h:gE w A l)(hs:Sm No w w'):gE w' A l:=h.sm hs (fun _ _ h=>h)
theorem FB.no{w w':World}{A:Option Addr}{l:List ByteArray}{c:Nat}(h:FB w A l c)(hs:Sm No w w'):FB w' A l c:=⟨h.1.no hs,h.2⟩
section
variable {H:Type} {enc:TypeId × Value→H} {P:Program} {w:World}
end
end Go.Proofs.YtadcjgopaadfjaaGreatDoor
namespace Go.Proofs.YtadcjgopaadfjaaGreatDoor
open Go.RowKit Go.Proofs
theorem eK:(Tryz.prog.info? 9).map (fun i=>(i.zero,i.size,i.bytes))=some (some (.string ⟨#[]⟩),1,16):=by kernel_rfl
theorem eM(s:ByteArray)(k:Nat)(h:k < s.size):s.data.toList.drop k=s[k]::s.data.toList.drop (k+1):=by
 have h2:k < s.data.toList.length:=by simp;exact h
 rw [List.drop_eq_getElem_cons h2];rfl
theorem dq{c:UInt8}{n:Nat}(hn:n < 256)(h:c≠UInt8.ofNat n):((c.toNat:Int)==(n:Int))=false:=by
 simp;intro e;exact h (UInt8.toNat_inj.mp (by simp;omega))
def aP(l:List UInt8):Value:=.string ⟨l.toArray⟩
def bi(w:World)(B:Nat)(v:Value)(l:List (List UInt8)):Prop:=w.ownsRow B 9 1 v l.length (l.map aP)
theorem bi.no{w w':World}{B:Nat}{v:Value}{l:List (List UInt8)}(h:bi w B v l)(hs:Sm No w w'):bi w' B v l:=ae h hs (fun _ _ h=>h)
theorem bi.push{w:World}{B:Nat}{v:Value}{l:List (List UInt8)}{t:List UInt8}(h:w.ownsRow B 9 1 v (l.length+1) (l.map aP++[aP t])):bi w B v (l++[t]):=by
 unfold bi;rw [List.length_append,List.map_append];exact h
def G0(w:World):Prop:=∃ m,w.cell? ⟨0,0,none⟩=some (.int .i64 m)
theorem G0.no{w w':World}(h:G0 w)(hs:Sm No w w'):G0 w':=by
 obtain⟨m,hm⟩:=h;exact⟨m,hs.cell (World.block_lt_of_cell? w _ hm) hm⟩
def ar(vs:List ByteArray):List (List UInt8):=vs.map (·.data.toList)
section
variable {P:Program} {ops:Array Oper} {rest:List Oper} {o:Oper} {a:Act} {w:World} {Q:Exit→Act→World→Prop}
end
end Go.Proofs.YtadcjgopaadfjaaGreatDoor
