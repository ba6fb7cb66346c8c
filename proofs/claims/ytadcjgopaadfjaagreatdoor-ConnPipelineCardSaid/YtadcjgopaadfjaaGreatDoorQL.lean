import Derived.Lib.SplitLaws
import Derived.Lib.IndexBytes
import Derived.Test.YtadcjgopaadfjaaGreatDoorQB
import Derived.Test.YtadcjgopaadfjaaGreatDoorQO
import Derived.WalkSpells
import Derived.Deep.QuietTactic
import Derived.BigQuiet
import Derived.Deep.RegionHeld3
import Derived.RegionTactic
import Derived.BigRegion
import Derived.Test.YtadcjgopaadfjaaGreatDoorQN
set_option maxHeartbeats 8000000
set_option maxRecDepth 100000
namespace Go.Proofs.YtadcjgopaadfjaaGreatDoor
def bg:List UInt8→List UInt8→Nat→List UInt8 × Nat
 |[],_,_=>([],0)
 |[c],acc,i=>if c=34 then (acc,i+1) else ([],0)
 |c::d::r,acc,i=>
  if c=34 then (acc,i+1)
  else if c=92 then (if fm d=true then bg r (acc++[d]) (i+2) else ([],0))
  else if fm c=true then bg (d::r) (acc++[c]) (i+1) else ([],0)
def bN:List UInt8→List UInt8 × Nat
 |[]=>([],0)
 |c::r=>if c=34 then bg r [] 1 else ([],0)
theorem jE(c:UInt8)(r acc:List UInt8)(i:Nat)(h:c=34):bg (c::r) acc i=(acc,i+1):=by
 cases r<;>simp [bg,h]
theorem gQ(d:UInt8)(r acc:List UInt8)(i:Nat):bg (92::d::r) acc i=if fm d=true then bg r (acc++[d]) (i+2) else ([],0):=by
 simp [bg]
theorem sw(acc:List UInt8)(i:Nat):bg [92] acc i=([],0):=by simp [bg]
theorem fN(c:UInt8)(r acc:List UInt8)(i:Nat)(h1:c≠34)(h2:c≠92):bg (c::r) acc i=if fm c=true then bg r (acc++[c]) (i+1) else ([],0):=by
 cases r with
 |nil=>simp [bg,h1]
 |cons d r=>simp [bg,h1,h2]
theorem jI:∀ (r acc:List UInt8) (i:Nat) (a:List UInt8) (n:Nat),bg r acc i=(a,n)→n≠0→
 i < n∧n≤i+r.length∧bg (r.take (n-i)) acc i=(a,n)∧(bg (r.take (n-1-i)) acc i).2=0
 |[],acc,i,a,n,h,hn=>by simp [bg] at h;omega
 |[c],acc,i,a,n,h,hn=>by
  by_cases h1:c=34
  ·rw [jE c [] acc i h1] at h;injection h with h2 h3;subst h3;have e1:i+1-i=1:=by omega
   have e2:i+1-1-i=0:=by omega
   rw [e1,e2];exact⟨by omega,by simp,by simp [bg,h1,h2],by simp [bg]⟩
  ·simp [bg,h1] at h;omega
 |c::d::r,acc,i,a,n,h,hn=>by
  by_cases h1:c=34
  ·rw [jE c _ acc i h1] at h;injection h with h2 h3;subst h3;have e1:i+1-i=1:=by omega
   have e2:i+1-1-i=0:=by omega
   rw [e1,e2];exact⟨by omega,by simp,by simp [bg,h1,h2],by simp [bg]⟩
  ·by_cases h2:c=92
   ·subst h2;rw [gQ] at h;split at h
    ·rename_i hd
     obtain⟨g1,g2,g3,g4⟩:=jI r _ _ a n h hn;have e1:n-i=(n-(i+2))+1+1:=by omega
     refine⟨by omega,by simp at g2 ⊢;omega,?_,?_⟩
     ·rw [e1,List.take_succ_cons,List.take_succ_cons,gQ,if_pos hd];exact g3
     ·rcases Nat.lt_or_ge (n-1) (i+2) with g|g
      ·have e2:n-1-i=1:=by omega
       rw [e2];simp [bg]
      ·have e2:n-1-i=(n-1-(i+2))+1+1:=by omega
       rw [e2,List.take_succ_cons,List.take_succ_cons,gQ,if_pos hd];exact g4
    ·injection h with _ h3;omega
   ·rw [fN c _ acc i h1 h2] at h;split at h
    ·rename_i hd
     obtain⟨g1,g2,g3,g4⟩:=jI (d::r) _ _ a n h hn;have e1:n-i=(n-(i+1))+1:=by omega
     refine⟨by omega,by simp at g2 ⊢;omega,?_,?_⟩
     ·rw [e1,List.take_succ_cons,fN c _ acc i h1 h2,if_pos hd];exact g3
     ·rcases Nat.lt_or_ge (n-1) (i+1) with g|g
      ·omega
      ·have e2:n-1-i=(n-1-(i+1))+1:=by omega
       rw [e2,List.take_succ_cons,fN c _ acc i h1 h2,if_pos hd];exact g4
    ·injection h with _ h3;omega
theorem uM{l a:List UInt8}{n:Nat}(h:bN l=(a,n))(hn:n≠0):n≤l.length∧bN (l.take n)=(a,n)∧(bN (l.take (n-1))).2=0∧2≤n:=by
 cases l with
 |nil=>simp [bN] at h;omega
 |cons c r=>
  by_cases hc:c=34
  ·rw [bN,if_pos hc] at h;obtain⟨g1,g2,g3,g4⟩:=jI r [] 1 a n h hn;obtain⟨m,rfl⟩:∃ m,n=m+2:=⟨n-2,by omega⟩;refine⟨by simp;omega,?_,?_,by omega⟩
   ·rw [List.take_succ_cons,bN,if_pos hc];exact g3
   ·have e:m+2-1=m+1:=by omega
    rw [e,List.take_succ_cons,bN,if_pos hc];exact g4
  ·rw [bN,if_neg hc] at h;injection h with _ h;omega
def ef:List UInt8→List UInt8→List (List UInt8)
 |_,[]=>[]
 |cur,c::l=>if c=44 then cur::ef [] l else ef (cur++[c]) l
def ey(v:List UInt8):List (List UInt8):=ef [] (v++[44])
theorem qy(cur x y:List UInt8):ef cur (x++44::y)=ef cur (x++[44])++ef [] y:=by
 induction x generalizing cur with
 |nil=>simp [ef]
 |cons c x ih=>
  simp only [List.cons_append,ef];split
  ·rw [ih];rfl
  ·exact ih _
theorem mJ(cur x:List UInt8)(h:∀ c∈x,c≠44):ef cur (x++[44])=[cur++x]:=by
 induction x generalizing cur with
 |nil=>simp [ef]
 |cons c x ih=>
  rw [List.cons_append,ef,if_neg (h c (by simp)),ih _ (fun d hd=>h d (by simp [hd]))];simp
theorem sc{v:List UInt8}(h:∀ c∈v,c≠44):ey v=[v]:=by
 unfold ey;rw [mJ _ _ h];rfl
def dr:List (List UInt8)→List (List UInt8)→Option (List (List UInt8))
 |acc,[]=>some acc
 |acc,p::ps=>if ay p=[] then dr acc ps else if bo (ay p)=true then dr (acc++[bV (ay p)]) ps else none
def aO(values:List (List UInt8)):Option (List (List UInt8)):=dr [] (values.flatMap ey)
theorem ix{p:List UInt8}(acc ps:List (List UInt8))(h:ay p=[]):dr acc (p::ps)=dr acc ps:=by rw [dr,if_pos h]
theorem kX{p:List UInt8}(acc ps:List (List UInt8))(h:ay p≠[])(ht:bo (ay p)=true):dr acc (p::ps)=dr (acc++[bV (ay p)]) ps:=by rw [dr,if_neg h,if_pos ht]
theorem li{p:List UInt8}(acc ps:List (List UInt8))(h:ay p≠[])(ht:bo (ay p)=false):dr acc (p::ps)=none:=by rw [dr,if_neg h,if_neg (by simp [ht])]
theorem ye(cur x y:List UInt8)(h:∀ c∈x,c≠44):ef cur (x++44::y)=(cur++x)::ef [] y:=by
 rw [qy,mJ _ _ h];rfl
theorem Dm{l:List UInt8}{i:Nat}(h:∀ j,j < i→l[j]?≠some 44):∀ c∈l.take i,c≠44:=by
 intro c hc e;subst e;obtain⟨j,hj⟩:=List.getElem?_of_mem hc;have hlt:j < i:=by
  have:=(List.getElem?_eq_some_iff.1 hj).1;rw [List.length_take] at this;omega
 rw [List.getElem?_take,if_pos hlt] at hj;exact h j hlt hj
theorem kM:∀ (k:Nat) (s:List UInt8),Lib.count s [44]=k→Lib.splitK [44] 0 k s=ey s
 |0,s,h=>by
  rw [Lib.splitK];have:Lib.index s [44]= -1:=by
   rcases ce s 44 with g|⟨i,g⟩
   ·rw [Lib.index_one];exact g
   ·have:=Lib.count_hit (s:=s) (sub:=[44]) (i:=i) (by simp) (by rw [Lib.index_one];exact g);omega
  rw [Lib.index_one] at this;rw [sc (fun c hc e=>by
   subst e;obtain⟨j,hj⟩:=List.getElem?_of_mem hc;exact Lib.indexByte_none this j hj)]
 |k+1,s,h=>by
  rw [Lib.splitK];rcases ce s 44 with g|⟨i,g⟩
  ·have:=Lib.count_miss (s:=s) (sub:=[44]) (by rw [Lib.index_one];exact g);omega
  ·have hi:=mx s 44 i g;have hix:Lib.index s [44]=i:=by rw [Lib.index_one];exact g
   have hc:=Lib.count_hit (s:=s) (sub:=[44]) (i:=i) (by simp) hix;have e0:([44]:List UInt8).length=1:=rfl;rw [e0] at hc;obtain⟨g1,g2⟩:=Lib.indexByte_some g;rw [hix,if_neg (by simp)];have e1:((i:Int)).toNat=i:=by omega
   rw [e1,e0,Nat.add_zero,kM k (s.drop (i+1)) (by omega)];have hs:s=s.take i++44::s.drop (i+1):=by
    have h1:s[i]?=some 44:=g1;rw [List.getElem?_eq_getElem hi] at h1;injection h1 with h1;rw [←h1,List.getElem_cons_drop hi,List.take_append_drop]
   conv=>rhs;rw [hs]
   unfold ey;rw [List.append_assoc,List.cons_append,ye _ _ _ (Dm g2)];rfl
theorem sf(s:ByteArray):(Lib.splitB ⟨#[44]⟩ 0 (Lib.countB s ⟨#[44]⟩) s).map (·.data.toList)=ey s.data.toList:=by
 rw [Lib.splitB_data];exact kM _ _ rfl
def eo(l:List UInt8):List UInt8:=l.takeWhile fc
def jN(n:List UInt8):List UInt8→Option ((List UInt8 × List UInt8) × List UInt8)
 |[]=>some ((n,[]),[])
 |d::s=>
  if d=61 then
   if (bN s).2=0 then (if eo s=[] then none else some ((n,eo s),s.drop (eo s).length))
   else some ((n,(bN s).1),s.drop (bN s).2)
  else some ((n,[]),d::s)
def cj:List UInt8→Option ((List UInt8 × List UInt8) × List UInt8)
 |[]=>none
 |c::r=>
  if c=59 then
   if eo (aQ r)=[] then none else jN (eo (aQ r)) ((aQ r).drop (eo (aQ r)).length)
  else none
def dd:Nat→List (List UInt8 × List UInt8)→List UInt8→Option (List (List UInt8 × List UInt8))
 |0,_,_=>none
 |k+1,acc,s=>
  if aQ s=[] then some acc
  else match cj (aQ s) with
   |none=>none
   |some (p,r)=>if k=0 then none else dd k (acc++[p]) r
def cc(s:List UInt8):Option (List (List UInt8 × List UInt8)):=dd 17 [] s
end Go.Proofs.YtadcjgopaadfjaaGreatDoor
namespace Go.Proofs.YtadcjgopaadfjaaGreatDoor
open Go.RowKit Go.Proofs
def aU(c:UInt8):Value:=.int .u8 c.toNat
def aG(w:World)(B:Nat)(v:Value)(l:List UInt8):Prop:=w.ownsRow B 5 1 v l.length (l.map aU)
theorem aG.no{w w':World}{B:Nat}{v:Value}{l:List UInt8}(h:aG w B v l)(hs:Sm No w w'):aG w' B v l:=ae h hs (fun _ _ h=>h)
theorem aG.by{w:World}{B:Nat}{v:Value}{l:List UInt8}(h:aG w B v l):(v=.slice none 0 0∧l=[])∨∃ g cap,v=.slice (some ⟨g,0,none⟩) l.length cap∧B≤g∧By w g l:=by
 rcases aK h with ⟨h1,h2,_⟩|⟨g,cap,hv,_,hB,hg,_,hc,hz⟩
 ·exact Or.inl ⟨h1,List.eq_nil_of_length_eq_zero h2⟩
 ·exact Or.inr ⟨g,cap,hv,hB,hg,fun j c hj=>⟨hc j _ (by simp [hj,aU]),hz j⟩⟩
theorem Bk.by1{w:World}{g:Nat}{t:TypeId}{c:UInt8}(h:Bk w g t #[.int .u8 c.toNat]):By w g [c]:=by
 refine⟨h.lt,fun j d hj=> ?_⟩
 match j,hj with
 |0,hj=>obtain rfl:c=d:=by simpa using hj
        exact⟨h.at 0 rfl,h.fz 0⟩
section
variable {P:Program} {ops:Array Oper} {rest:List Oper} {o:Oper} {a:Act} {w:World} {Q:Exit→Act→World→Prop}
theorem km (hgd:o.guard=none) (src dst e:TypeId) (x:Operand) (ho:o.op=.convert src dst x) (hx:a.eval x=.slice none 0 0)
 (hs:P.underlying src=some (.slice e)) (he:P.underlying e=some (.int .u8)) (hd:P.underlying dst=some .string)
 (h:wpList P ops Q rest (a.put o.dst (.string ⟨#[]⟩)) w):wpList P ops Q (o::rest) a w:=by
 refine wpList_plain hgd fun _ hK=> ?_;unfold Oper.wp execOp;have hr:(convert src dst (.slice none 0 0)).run P w=.ok (.string ⟨#[]⟩) w:=by
  rw [run_convert_bytes_string w src dst e none 0 0 hs he hd];rfl
 simp only [ho,hx,Sem.run_bind,Sem.run_pure,hr,Result.andThen_ok];exact hK _ _ h
theorem fP (hgd:o.guard=none) (src dst:TypeId) (x:Operand) (ho:o.op=.convert src dst x) (B:Nat) (l:List UInt8) (v:Value) (hx:a.eval x=v) (hO:aG w B v l)
 (hs:P.underlying src=some (.slice 5)) (he:P.underlying 5=some (.int .u8)) (hd:P.underlying dst=some .string)
 (h:wpList P ops Q rest (a.put o.dst (.string ⟨l.toArray⟩)) w):wpList P ops Q (o::rest) a w:=by
 rcases hO.by with ⟨rfl,rfl⟩|⟨g,cap,rfl,_,hb⟩
 ·exact km hgd src dst _ x ho hx hs he hd h
 ·exact aV hgd src dst _ x ho g _ cap l hx hs he hd hb rfl h
end
theorem aw(a:ByteArray):a.size=a.data.toList.length:=by simp
def FL(p:List UInt8 × Nat):Value:=.tuple #[.string ⟨p.1.toArray⟩,.int .i64 (p.2:Int)]
def E8(s:ByteArray)(w:World)(b i:Value)(wr:World):Prop:=
 ∃ (k:Nat) (acc:List UInt8),k≤s.size∧1≤k∧i=.int .i64 k∧acc.length≤k∧bN s.data.toList=bg (s.data.toList.drop k) acc k∧aG wr w.heap.size b acc∧Sm No w wr
theorem kJ{c:UInt8}{r:Bool}(h:Hid (fm c=r))(w:World):Calls Tryz.prog 80 #[.string ⟨#[c]⟩] w fun e w'=>e=.returned (.bool r)∧w=w':=by
 have:=lC ⟨#[c]⟩ (by show 1≤_;decide) w;have e:di (⟨#[c]⟩:ByteArray).data.toList=r:=by rw [←h.out];simp [di]
 rw [e] at this;exact this
theorem aG.push{w:World}{B n:Nat}{v:Value}{l:List UInt8}{c:UInt8}(h:w.ownsRow B 5 1 v (l.length+1) (l.map aU++[.int .u8 c.toNat]))(_:n=0):aG w B v (l++[c]):=by
 unfold aG;rw [List.length_append,List.map_append];exact h
theorem wM(s:ByteArray)(hs:s.size≤1000000)(w:World):
 Calls Tryz.prog 267 #[.string s] w fun e w'=>e=.returned (FL (bN s.data.toList))∧Sm No w w':=by
 obtain⟨R,hR⟩:=ai (bN s.data.toList);rw [hR];by_cases h0:s.size=0
 ·have hn:s.data.toList=[]:=List.eq_nil_of_length_eq_zero (by simpa using h0);rw [hn] at hR;subst hR;have h1:s.toList=[]:=by rw [Go.ByteArray.toList_eq];exact hn
  have h2:s.toList.isEmpty=true:=by rw [h1];rfl
  clear hn h0;go_in;go_wp2_with fail
  all_goals
   go_ret2;exact⟨rfl,Sm.refl _ _⟩
 ·have h2:0 < s.size:=by omega
  have h3:s.toList.isEmpty=false:=by rw [Go.ByteArray.toList_eq];cases hq:s.data.toList with
   |nil=>exact absurd (show s.data.toList.length=0 by rw [hq];rfl) (by rw [←aw];exact h0)
   |cons a l=>rfl
  by_cases hq:s[0]=34
  ·have e0:=eM s 0 h2;rw [List.drop_zero] at e0;have hq1:((s[0].toNat:Int) != 34)=false:=by simp [hq]
   have hL:bN s.data.toList=bg (s.data.toList.drop 1) [] 1:=by rw [e0,bN,if_pos hq];rfl
   have HL:=aa (ab hL hR);clear e0 hq hL hR h0;go_in;go_wp2_with fail
   go_loopw [4,5] (fun b i wr=>E8 s w b i wr) (fun _ i _=>s.size-(intOf i).toNat)
   case atStart=>exact⟨1,[],h2,Nat.le_refl _,rfl,by simp,HL.out.1,World.ownsRow_nil _ _ _ 1,Sm.refl _ _⟩
   case round=>
    obtain⟨k,acc,hk,hk1,rfl,hacc,hqr,hO,hsm⟩:=hrel;have HQ:=aa (ab hqr (ab hO hsm));clear hqr hO hsm;by_cases hlt:k < s.size
    ·have hd:=eM s k hlt;obtain⟨c,hc⟩:=ai (s[k]);have hc256:=c.toNat_lt;rw [hc] at hd;by_cases hc1:c=34
     ·have hRR:R=(acc,k+1):=by rw [←HL.out.2,HQ.out.1,hd,jE _ _ _ _ hc1]
      have HRR:=aa hRR;have ht:((c.toNat:Int)==34)=true:=by rw [hc1];rfl
      clear hRR hd hc1;go_wp2_with (refine fP rfl 34 9 _ rfl w.heap.size acc _ rfl HQ.out.2.1 Tryz.underlying34 Tryz.underlying5 Tryz.underlying9 ?_);go_ret2;exact⟨by rw [HRR.out];rfl,HQ.out.2.2⟩
     ·have ht:((c.toNat:Int)==34)=false:=dq (n:=34) (by decide) hc1;by_cases hc2:c=92
      ·have ht2:((c.toNat:Int)==92)=true:=by rw [hc2];rfl
       rw [hc2] at hd;by_cases hl2:k+1 < s.size
       ·have hd2:=eM s (k+1) hl2;obtain⟨d,hdd⟩:=ai (s[k+1]);have hd256:=d.toNat_lt;rw [hdd] at hd2;obtain⟨f,hf⟩:=ai (fm d);have HF:=aa hf;have hst:bN s.data.toList=if f=true then bg (s.data.toList.drop (k+2)) (acc++[d]) (k+2) else ([],0):=by rw [HQ.out.1,hd,hd2,gQ,hf]
        have HD:=aa hst;have hne:((((k:Nat):Int)+1)==(s.size:Int))=false:=by simp;omega
        have k1:(0:Int)≤(k:Int)+1:=by omega
        have k2:(k:Int)+1 < (s.size:Int):=by omega
        clear hd hd2 hf hst hc1 hc2;go_wp2_with (refine aV rfl 34 9 5 _ rfl wr.heap.size 1 1 [d] rfl Tryz.underlying34 Tryz.underlying5 Tryz.underlying9 (Bk.new wr 5 #[.int .u8 d.toNat]).by1 rfl ?_);refine(kJ HF _).mono ?_;rintro e w1 ⟨rfl,rfl⟩;have HQ3:=aa (ab (World.ownsRow.alloc HQ.out.2.1 (.cells #[.int .u8 d.toNat] 5)) (HQ.out.2.2.alloc (.cells #[.int .u8 d.toNat] 5)));generalize wr.alloc (.cells #[.int .u8 d.toNat] 5)=wr1 at HQ3 ⊢
        cases f
        ·have hRR:R=([],0):=by rw [←HL.out.2,HD.out,if_neg (by simp)]
         subst hRR;go_wp2_with fail;go_ret2;exact⟨rfl,HQ3.out.2⟩
        ·have HR2:Hid (bN s.data.toList=bg (s.data.toList.drop (k+2)) (acc++[d]) (k+2)):=by rw [HD.out,if_pos rfl];exact aa rfl
         go_wp2_with (refine aY rfl _ _ 34 5 rfl Tryz.underlying34 _ 1 1 fC rfl (by decide) (by decide) w.heap.size _ u4 _ rfl (World.ownsRow.alloc HQ3.out.1 _) wr1.heap.size #[.int .u8 d.toNat] rfl (Bk.new wr1 _ _) rfl (by simp [Value.oneCell']) (by omega) (by have:=HQ3.out.2.size;simp;omega) ?_;intro v' w2 hown2 hs2 hv2);have hO2:aG w2 w.heap.size v' (acc++[d]):=aG.push hown2 rfl;have hS2:Sm No w w2:=(HQ3.out.2.alloc (.cells #[.int .u8 d.toNat] 5)).trans hs2 (fun b hb e=>by
          have:=(World.ownsRow.lt HQ3.out.1 b e).1;omega)
         have H2:=aa (ab hO2 hS2);clear hO2 hS2 hown2 hs2 hv2;go_wp2_with fail;exact⟨⟨k+2,acc++[d],by omega,by omega,by go_num,by simp;omega,HR2.out,H2.out.1,H2.out.2⟩,by simp [intOf];omega⟩
       ·have hRR:R=([],0):=by
         rw [←HL.out.2,HQ.out.1,hd,List.drop_eq_nil_of_le (by simp;omega),sw]
        subst hRR;have hne:((((k:Nat):Int)+1)==(s.size:Int))=true:=by simp;omega
        clear hd hc1 hc2;go_wp2_with fail;go_ret2;exact⟨rfl,HQ.out.2.2⟩
      ·have ht2:((c.toNat:Int)==92)=false:=dq (n:=92) (by decide) hc2;obtain⟨f,hf⟩:=ai (fm c);have HF:=aa hf;have hst:bN s.data.toList=if f=true then bg (s.data.toList.drop (k+1)) (acc++[c]) (k+1) else ([],0):=by rw [HQ.out.1,hd,fN _ _ _ _ hc1 hc2,hf]
       have HD:=aa hst;clear hd hf hst hc1 hc2;go_wp2_with (refine aV rfl 34 9 5 _ rfl wr.heap.size 1 1 [c] rfl Tryz.underlying34 Tryz.underlying5 Tryz.underlying9 (Bk.new wr 5 #[.int .u8 c.toNat]).by1 rfl ?_);refine(kJ HF _).mono ?_;rintro e w1 ⟨rfl,rfl⟩;have HQ3:=aa (ab (World.ownsRow.alloc HQ.out.2.1 (.cells #[.int .u8 c.toNat] 5)) (HQ.out.2.2.alloc (.cells #[.int .u8 c.toNat] 5)));generalize wr.alloc (.cells #[.int .u8 c.toNat] 5)=wr1 at HQ3 ⊢
       cases f
       ·have hRR:R=([],0):=by rw [←HL.out.2,HD.out,if_neg (by simp)]
        subst hRR;go_wp2_with fail;go_ret2;exact⟨rfl,HQ3.out.2⟩
       ·have HR2:Hid (bN s.data.toList=bg (s.data.toList.drop (k+1)) (acc++[c]) (k+1)):=by rw [HD.out,if_pos rfl];exact aa rfl
        go_wp2_with (refine aY rfl _ _ 34 5 rfl Tryz.underlying34 _ 1 1 fC rfl (by decide) (by decide) w.heap.size _ u4 _ rfl (World.ownsRow.alloc HQ3.out.1 _) wr1.heap.size #[.int .u8 c.toNat] rfl (Bk.new wr1 _ _) rfl (by simp [Value.oneCell']) (by omega) (by have:=HQ3.out.2.size;simp;omega) ?_;intro v' w2 hown2 hs2 hv2);have hO2:aG w2 w.heap.size v' (acc++[c]):=aG.push hown2 rfl;have hS2:Sm No w w2:=(HQ3.out.2.alloc (.cells #[.int .u8 c.toNat] 5)).trans hs2 (fun b hb e=>by
         have:=(World.ownsRow.lt HQ3.out.1 b e).1;omega)
        have H2:=aa (ab hO2 hS2);clear hO2 hS2 hown2 hs2 hv2;go_wp2_with fail;exact⟨⟨k+1,acc++[c],by omega,by omega,by go_num,by simp;omega,HR2.out,H2.out.1,H2.out.2⟩,by simp [intOf];omega⟩
    ·have hRR:R=([],0):=by
      rw [←HL.out.2,HQ.out.1,List.drop_eq_nil_of_le (by simp;omega)];rfl
     subst hRR;go_wp2_with fail;go_ret2;exact⟨rfl,HQ.out.2.2⟩
  ·have hq1:((s[0].toNat:Int) != 34)=true:=by
    simp;intro h;exact hq (UInt8.toNat_inj.mp (by have:(34:UInt8).toNat=34:=rfl;omega))
   have e0:=eM s 0 h2;rw [List.drop_zero] at e0;have hL:R=([],0):=by rw [←hR,e0,bN,if_neg hq]
   subst hL;clear e0 hq hR h0;go_in;go_wp2_with fail
   all_goals
    go_ret2;exact⟨rfl,Sm.refl _ _⟩
theorem zH(cur l:List UInt8):∀ p∈ef cur l,p.length≤cur.length+l.length:=by
 induction l generalizing cur with
 |nil=>intro p hp;cases hp
 |cons c l ih=>
  intro p hp;rw [ef] at hp;split at hp
  ·rcases List.mem_cons.1 hp with rfl|hp
   ·simp
   ·have:=ih [] p hp;simp at this ⊢;omega
  ·have:=ih _ p hp;simp at this ⊢;omega
theorem mq{v p:List UInt8}(h:p∈ey v):p.length≤v.length+1:=by
 have:=zH [] _ p h;simpa using this
theorem wI(cur l:List UInt8):(ef cur l).length≤l.length:=by
 induction l generalizing cur with
 |nil=>simp [ef]
 |cons c l ih=>
  rw [ef];split
  ·have:=ih [];simp;omega
  ·have:=ih (cur++[c]);simp;omega
theorem ra(v:List UInt8):(ey v).length≤v.length+1:=by
 have:=wI [] (v++[44]);simpa [ey] using this
theorem yw(s:ByteArray)(hs:s.size≤1000000)(w:World)(hg:G0 w):
 Calls Tryz.prog 113 #[.string s,.string ⟨#[44]⟩] w fun e w'=>∃ ps:List ByteArray,ps.map (·.data.toList)=ey s.data.toList∧e=.returned (.slice (some ⟨w.heap.size,0,none⟩) ps.length ps.length)∧
  gE w' (some ⟨w.heap.size,0,none⟩) ps∧Sm No w w'∧w.heap.size < w'.heap.size∧∀ p∈ps,p.size≤s.size+1:=by
 obtain⟨m,hm⟩:=hg;refine(Tryz.strings_Split s ⟨#[44]⟩ m w (by omega) hm (by decide)).mono fun e w' ⟨he,hw⟩=> ?_;have hlen:=Lib.splitB_all ⟨#[44]⟩ (by decide) 0 _ s rfl;have hcm:=sf s;refine⟨_,hcm,?_,?_,?_,by rw [hw];simp,?_⟩
 ·rw [hlen];exact he
 ·intro k hk;subst hw;have hb:=Bk.new w 9 ((Lib.splitB ⟨#[44]⟩ 0 (Lib.countB s ⟨#[44]⟩) s).map Value.string).toArray;exact⟨w.heap.size,0,rfl,hb.lt,by rw [Nat.zero_add];exact hb.at k (by simp [hk])⟩
 ·rw [hw];exact(Sm.refl No w).alloc _
 ·intro p hp;have:p.data.toList∈ey s.data.toList:=by rw [←hcm];exact List.mem_map.2 ⟨p,hp,rfl⟩
  have:=mq this;rw [←aw,←aw] at this;omega
def pH(w:World)(vs:List ByteArray)(e:Ending)(w':World):Prop:=
 (∃ r v,aO (ar vs)=some r∧e=.returned (.tuple #[v,.bool true])∧bi w' w.heap.size v r∧Sm No w w')∨
 (aO (ar vs)=none∧e=.returned (.tuple #[.slice none 0 0,.bool false])∧Sm No w w')
def cX(vs:List ByteArray)(k:Nat):List (List UInt8):=(ar (vs.drop k)).flatMap ey
theorem Dc{vs:List ByteArray}{k:Nat}(h:k < vs.length):cX vs k=ey vs[k].data.toList++cX vs (k+1):=by
 unfold cX ar;rw [List.drop_eq_getElem_cons h];rfl
theorem AC{vs:List ByteArray}{k:Nat}(h:¬k < vs.length):cX vs k=[]:=by
 unfold cX ar;rw [List.drop_eq_nil_of_le (by omega)];rfl
def FJ(w:World)(vs:List ByteArray)(l i:Value)(wr:World):Prop:=
 ∃ (k:Nat) (acc:List (List UInt8)),k≤vs.length∧i=.int .i64 k∧aO (ar vs)=dr acc (cX vs k)∧acc.length+(cX vs k).length≤1000000∧bi wr w.heap.size l acc∧Sm No w wr
def Dy(w:World)(gp:Nat)(T:Option (List (List UInt8)))(ps:List ByteArray)(rest:List (List UInt8))(l i:Value)(wr:World):Prop:=
 ∃ (j:Nat) (acc:List (List UInt8)),j≤ps.length∧i=.int .i64 j∧T=dr acc (ar (ps.drop j)++rest)∧acc.length+(ar (ps.drop j)++rest).length≤1000000∧bi wr w.heap.size l acc∧gE wr (some ⟨gp,0,none⟩) ps∧Sm No w wr∧l.ownBlock≠some gp∧gp < wr.heap.size
theorem AW{ps:List ByteArray}{j:Nat}(h:j < ps.length)(rest:List (List UInt8)):ar (ps.drop j)++rest=ps[j].data.toList::(ar (ps.drop (j+1))++rest):=by
 unfold ar;rw [List.drop_eq_getElem_cons h];rfl
theorem yS{s r:ByteArray}(h:Hid ((⟨(bV s.data.toList).toArray⟩:ByteArray)=r))(hs:s.size≤1000000)(w:World):Calls Tryz.prog 184 #[.string s] w fun e w'=>e=.returned (.string r)∧Sm No w w':=by
 rw [←h.out];exact iV s hs w
theorem vC(w:World)(A:Option Addr)(c:Nat)(vs:List ByteArray)(hg:G0 w)(hA:gE w A vs)(hl:vs.length≤1000000)(hs:∀ s∈vs,s.size≤900000)(ht:(cX vs 0).length≤1000000):
 Calls Tryz.prog 250 #[.slice A vs.length c] w (pH w vs):=by
 have HA:=aa (ab hg (ab hA (ab hs ht)));clear hg hA hs ht;go_in;go_wp2_with fail
 go_loopw [4,11] (fun l i wr=>FJ w vs l i wr) (fun _ i _=>vs.length-(intOf i).toNat)
 case atStart=>exact⟨0,[],Nat.zero_le _,rfl,rfl,by simpa using HA.out.2.2.2,World.ownsRow_nil _ _ _ 1,Sm.refl _ _⟩
 case round=>
  obtain⟨k,acc,hk,rfl,hT,hT2,hO,hsm⟩:=hrel;obtain⟨wo,rfl⟩:∃ wo:World,wo=wr:=⟨_,rfl⟩;have HK:=aa (ab hT (ab hT2 (ab hO hsm)));clear hT hT2 hO hsm;by_cases hlt:k < vs.length
  ·obtain⟨bb,off,hAe,hbb,r0⟩:=(HA.out.2.1.no HK.out.2.2.2) k hlt;subst hAe;have s0:=HA.out.2.2.1 _ (List.getElem_mem hlt);have hrest:=Dc hlt;obtain⟨s,hsk⟩:=ai (vs[k]);rw [hsk] at r0 s0 hrest;have HR:=aa hrest;have k1:(0:Int)≤(k:Int):=by omega
   have k2:(k:Int) < (vs.length:Int):=by omega
   clear hsk hrest;go_wp2_with fail;refine(yw s (by omega) wo (HA.out.1.no HK.out.2.2.2)).mono ?_;rintro e w1 ⟨ps,hps,rfl,hSR,hs1,hgp,hpz⟩;have hT1:aO (ar vs)=dr acc (ar ps++cX vs (k+1)):=by rw [HK.out.1,HR.out,←hps];rfl
   have hT2:acc.length+(ar ps++cX vs (k+1)).length≤1000000:=by have:=HK.out.2.1;rw [HR.out,←hps] at this;exact this
   have hpl:ps.length≤1000000:=by simp [ar] at hT2;omega
   have HP:=aa (ab hT1 (ab hT2 (ab hSR (ab hs1 (ab hpz (ab (ae HK.out.2.2.1 hs1 (fun _ _ h=>h)) (ab (HK.out.2.2.2.tt hs1) (ab (show u4.ownBlock≠some wo.heap.size from fun e=>by have:=(World.ownsRow.lt HK.out.2.2.1 _ e).2;omega) hgp))))))));clear hT1 hT2 hSR hs1 hpz hps hgp;go_wp2_with fail
   go_loopw [4,18] (fun l i wr'=>Dy w wo.heap.size (aO (ar vs)) ps (cX vs (k+1)) l i wr') (fun _ i _=>ps.length-(intOf i).toNat)
   case atStart=>exact⟨0,acc,Nat.zero_le _,rfl,HP.out.1,HP.out.2.1,HP.out.2.2.2.2.2.1,HP.out.2.2.1,HP.out.2.2.2.2.2.2.1,HP.out.2.2.2.2.2.2.2.1,HP.out.2.2.2.2.2.2.2.2⟩
   case round=>
    obtain⟨j,acc2,hj,rfl,hT,hT2,hO,hSR,hsm,hgp⟩:=hrel;have HJ:=aa (ab hT (ab hT2 (ab hO (ab hSR (ab hsm hgp)))));clear hT hT2 hO hSR hsm hgp;by_cases hlt2:j < ps.length
    ·obtain⟨b2,o2,hA2,hb2,r2⟩:=HJ.out.2.2.2.1 j hlt2;injection hA2 with hA2;injection hA2 with hA3 hA4;subst hA3 hA4;have s2:=HP.out.2.2.2.2.1 _ (List.getElem_mem hlt2);have hat:=AW hlt2 (cX vs (k+1));obtain⟨p,hp⟩:∃ s,ps[j]=s:=⟨_,rfl⟩;rw [hp] at r2 s2 hat;rw [Nat.zero_add] at r2;obtain⟨r,hr⟩:=ai ((⟨(ay p.data.toList).toArray⟩:ByteArray));have hrl:r.data.toList=ay p.data.toList:=by rw [←hr]
     have hrs:r.size≤1000000:=by
      have h1:=iG p.data.toList;rw [aw,hrl];rw [aw] at s2;omega
     have HR2:=aa hr;have HX:=aa (ab hat hrl);have k3:(0:Int)≤(j:Int):=by omega
     have k4:(j:Int) < (ps.length:Int):=by omega
     clear hp hat hr hrl;go_wp2_with fail;refine(fA HR2 (by omega) _).mono ?_;rintro e w2 ⟨rfl,hs2⟩;have HW:=aa (ab (HJ.out.2.2.2.1.no hs2) (ab (ae HJ.out.2.2.1 hs2 (fun _ _ h=>h)) (ab (HJ.out.2.2.2.2.1.tt hs2) (ab HJ.out.2.2.2.2.2.1 (Nat.lt_of_lt_of_le HJ.out.2.2.2.2.2.2 hs2.size)))));clear hs2;by_cases hn:r.data.toList=[]
     ·have h1:r.toList=[]:=by rw [Go.ByteArray.toList_eq];exact hn
      have h2:r.toList.isEmpty=true:=by rw [h1];rfl
      have hT:aO (ar vs)=dr acc2 (ar (ps.drop (j+1))++cX vs (k+1)):=by rw [HJ.out.1,HX.out.1,ix _ _ (by rw [←HX.out.2];exact hn)]
      have hT2:acc2.length+(ar (ps.drop (j+1))++cX vs (k+1)).length≤1000000:=by have:=HJ.out.2.1;rw [HX.out.1,List.length_cons] at this;omega
      have HT:=aa (ab hT hT2);clear hT hT2 hn;go_wp2_with fail;exact⟨⟨j+1,acc2,by omega,by go_num,HT.out.1,HT.out.2,HW.out.2.1,HW.out.1,HW.out.2.2.1,HW.out.2.2.2⟩,by simp [intOf];omega⟩
     ·have h1:¬r.toList=[]:=by rw [Go.ByteArray.toList_eq];exact hn
      have h2:r.toList.isEmpty=false:=by cases hq:r.toList with
       |nil=>exact absurd hq h1
       |cons a l=>rfl
      obtain⟨f,hf⟩:=ai (bo r.data.toList);have HF:=aa hf;have HN:=aa hn;clear hf hn;go_wp2_with fail;refine(cU HF hrs _).mono ?_;rintro e w3 ⟨rfl,rfl⟩
      cases f
      ·have hT:aO (ar vs)=none:=by rw [HJ.out.1,HX.out.1,li _ _ (by rw [←HX.out.2];exact HN.out) (by rw [←HX.out.2];exact HF.out)]
       have HT:=aa hT;clear hT;go_wp2_with fail;go_ret2;exact Or.inr ⟨HT.out,rfl,HW.out.2.2.1⟩
      ·obtain⟨lw,hlw⟩:∃ x,(⟨(bV r.data.toList).toArray⟩:ByteArray)=x:=⟨_,rfl⟩;have hT:aO (ar vs)=dr (acc2++[bV r.data.toList]) (ar (ps.drop (j+1))++cX vs (k+1)):=by
        rw [HJ.out.1,HX.out.1,kX _ _ (by rw [←HX.out.2];exact HN.out) (by rw [←HX.out.2];exact HF.out),HX.out.2]
       have hT2:(acc2++[bV r.data.toList]).length+(ar (ps.drop (j+1))++cX vs (k+1)).length≤1000000:=by have:=HJ.out.2.1;rw [HX.out.1,List.length_cons] at this;rw [List.length_append];simp only [List.length_singleton];omega
       have ha2:acc2.length≤1000000:=by have:=HJ.out.2.1;omega
       have HT:=aa (ab hT hT2);have HLW:=aa hlw;clear hT hT2 hlw;go_wp2_with fail;refine(yS HLW hrs _).mono ?_;rintro e w4 ⟨rfl,hs4⟩;have HW4:=aa (ab (HW.out.1.no hs4) (ab (ae HW.out.2.1 hs4 (fun _ _ h=>h)) (ab (HW.out.2.2.1.tt hs4) (ab HW.out.2.2.2.1 (Nat.lt_of_lt_of_le HW.out.2.2.2.2 hs4.size)))));clear hs4;go_wp2_with (refine aY rfl _ _ 119 9 rfl Tryz.underlying119 _ 1 16 eK rfl (by decide) (by decide) w.heap.size _ u4 _ rfl (World.ownsRow.alloc HW4.out.2.1 _) w4.heap.size #[.string lw] rfl (Bk.new w4 _ _) rfl (by simp [Value.oneCell']) ha2 (by have:=HW4.out.2.2.1.size;simp;omega) ?_;intro v' w5 hown5 hs5 hv5);have hO5:bi w5 w.heap.size v' (acc2++[bV r.data.toList]):=by
        refine bi.push ?_;rw [aP,HLW.out];exact hown5
       have hS5:Sm No w w5:=(HW4.out.2.2.1.alloc (.cells #[.string lw] 9)).trans hs5 (fun b hb e=>by
        have:=(World.ownsRow.lt HW4.out.2.1 b e).1;omega)
       have hR5:gE w5 (some ⟨wo.heap.size,0,none⟩) ps:=(HW4.out.1.no ((Sm.refl No w4).alloc (.cells #[.string lw] 9))).sm hs5 (fun a ha e=>by
        injection ha with ha;rw [←ha] at e;exact HW4.out.2.2.2.1 e)
       have hN5:v'.ownBlock≠some wo.heap.size:=fun e=>by
        rcases hv5 with g|g
        ·exact HW4.out.2.2.2.1 (g ▸ e)
        ·rw [g] at e;injection e with e;have:=HW4.out.2.2.2.2;simp at e;omega
       have hG5:wo.heap.size < w5.heap.size:=by have:=HW4.out.2.2.2.2;have:=hs5.size;simp at this;omega
       have H5:=aa (ab hO5 (ab hR5 (ab hS5 (ab hN5 hG5))));clear hO5 hS5 hown5 hs5 hv5 hR5 hN5 hG5;go_wp2_with fail;exact⟨⟨j+1,acc2++[bV r.data.toList],by omega,by go_num,HT.out.1,HT.out.2,H5.out.1,H5.out.2.1,H5.out.2.2.1,H5.out.2.2.2⟩,by simp [intOf];omega⟩
    ·have hT:aO (ar vs)=dr acc2 (cX vs (k+1)):=by
      have:=HJ.out.1;rw [List.drop_eq_nil_of_le (by omega)] at this;exact this
     have hT2:acc2.length+(cX vs (k+1)).length≤1000000:=by
      have:=HJ.out.2.1;rw [List.drop_eq_nil_of_le (by omega)] at this;exact this
     have HT:=aa (ab hT hT2);clear hT hT2;go_wp2_with fail;exact⟨⟨k+1,acc2,by omega,by go_num,HT.out.1,HT.out.2,HJ.out.2.2.1,HJ.out.2.2.2.2.1⟩,by simp [intOf];omega⟩
  ·have hend:aO (ar vs)=some acc:=by rw [HK.out.1,AC hlt];rfl
   have HE:=aa hend;clear hend;go_wp2_with fail;go_ret2;exact Or.inl ⟨acc,_,HE.out,rfl,HK.out.2.2.1,HK.out.2.2.2⟩
theorem jG{p:UInt8→Bool}{l:List UInt8}{k:Nat}(hk:k≤l.length)(h1:∀ c∈l.take k,p c=true)(h2:∀ h:k < l.length,p l[k]=false):l.takeWhile p=l.take k:=by
 induction l generalizing k with
 |nil=>simp at hk;subst hk;rfl
 |cons c l ih=>
  cases k with
  |zero=>
   have:=h2 (by simp);simp at this;simp [this]
  |succ k=>
   have hc:p c=true:=h1 c (by simp);rw [List.takeWhile_cons,if_pos hc,List.take_succ_cons];congr 1;refine ih (by simpa using hk) (fun d hd=>h1 d (by simp [hd])) (fun h=> ?_);have:=h2 (by simpa using h);simpa using this
def FD(p:UInt8→Bool)(s:ByteArray)(i:Value):Prop:=∃ k:Nat,k≤s.size∧i=.int .i64 k∧∀ c∈s.data.toList.take k,p c=true
theorem rZ{p:UInt8→Bool}{s:ByteArray}{k:Nat}(h:∀ c∈s.data.toList.take k,p c=true)(hk:k < s.size)(hp:p s[k]=true):∀ c∈s.data.toList.take (k+1),p c=true:=by
 intro c hc;rw [et s k hk,List.mem_append] at hc;rcases hc with hc|hc
 ·exact h c hc
 ·obtain rfl:=List.mem_singleton.1 hc;exact hp
theorem EB(s:ByteArray)(k:Nat)(h:k < s.size):bo (s.extract k (k+1)).data.toList=fc s[k]:=by
 have e:k+1-k=1:=by omega
 rw [Lib.extract_data,←List.drop_take,et s k h,List.drop_append_of_le_length (by simp;omega),List.drop_eq_nil_of_le (by simp;omega)];simp [bo]
theorem pE(s:ByteArray)(hs:s.size≤1000000)(w:World):
 Calls Tryz.prog 266 #[.string s] w fun e w'=>∃ k:Nat,k≤s.size∧s.data.toList.take k=eo s.data.toList∧e=.returned (.string (s.extract 0 k))∧w=w':=by
 go_in;go_wp2_with fail
 go_loop [3] (fun i=>FD fc s i) (fun i=>s.size-(intOf i).toNat)
 case atStart=>exact⟨0,Nat.zero_le _,rfl,by simp⟩
 case round=>
  obtain⟨k,hk,rfl,hall⟩:=hrel;have HA:=aa hall;clear hall;have hkl:k≤s.data.toList.length:=by rw [←aw];exact hk
  have k0:(0:Int)≤(k:Int):=by omega
  have k0':(k:Int)≤(s.size:Int):=by omega
  by_cases hlt:k < s.size
  ·obtain⟨f,hf⟩:=ai (fc s[k]);have ho:=EB s k hlt;rw [hf] at ho;have HO:=aa ho;have HF:=aa hf;have hes:(s.extract k (k+1)).size≤1000000:=by simp;omega
   have k1:(k:Int) < (s.size:Int):=by omega
   have k2:(k:Int)+1≤(s.size:Int):=by omega
   clear hf ho;go_wp2_with fail;refine(cU HO hes _).mono ?_;rintro e w1 ⟨rfl,rfl⟩
   cases f
   ·have h:=jG (p:=fc) hkl HA.out (fun h=>HF.out);have HW:=aa h;clear h;go_wp2_with fail;go_ret;exact⟨k,hk,HW.out.symm,rfl,rfl⟩
   ·have HN:=aa (rZ HA.out hlt HF.out);go_wp2_with fail;exact⟨⟨k+1,by omega,by go_num,HN.out⟩,by simp [intOf];omega⟩
  ·have h:=jG (p:=fc) hkl HA.out (fun h=>absurd h (by rw [←aw];exact hlt));have HW:=aa h;clear h;go_wp2_with fail;go_ret;exact⟨k,hk,HW.out.symm,rfl,rfl⟩
theorem qV(s:ByteArray)(w:World):Calls Tryz.prog 261 #[.string s,.string ⟨#[9,32]⟩] w fun e w'=>e=.returned (.string ⟨(aQ s.data.toList).toArray⟩)∧Sm No w w':=by
 have h:=Any.strings_TrimLeft_laid Tryz.lays161 (by kernel_rfl) s ⟨#[9,32]⟩ w (by decide) (ascii_of_all (by decide));have e:Lib.trimLeftS s.data.toList (⟨#[9,32]⟩:ByteArray).data.toList=aQ s.data.toList:=by
  unfold Lib.trimLeftS aQ;congr 1
  funext c
  have:=cJ (fun c=>([9,32]:List UInt8).contains c==io c) (by decide+kernel) c;simpa using this
 rw [e] at h;exact h.mono fun _ _ ⟨a,b⟩=>⟨a,Sm.of_below b No⟩
def Aj(s:ByteArray)(w:World)(e:Ending)(w':World):Prop:=
 Sm No w w'∧((cj s.data.toList=none∧∃ a b r,e=.returned (.tuple #[.agg #[.string a,.string b],.string r,.bool false]))∨
  (∃ a b r:ByteArray,cj s.data.toList=some ((a.data.toList,b.data.toList),r.data.toList)∧e=.returned (.tuple #[.agg #[.string a,.string b],.string r,.bool true])))
theorem eJ(s:ByteArray):s.data.toList=[]↔s.size=0:=by
 rw [aw];exact⟨fun h=>by rw [h];rfl,fun h=>List.eq_nil_of_length_eq_zero h⟩
theorem kF{s:ByteArray}(h:s.size=0):s.toList=[]∧s.toList.isEmpty=true:=by
 have h1:s.toList=[]:=by rw [Go.ByteArray.toList_eq];exact(eJ s).2 h
 exact⟨h1,by rw [h1];rfl⟩
theorem iy{s:ByteArray}(h:¬s.size=0):¬s.toList=[]∧s.toList.isEmpty=false:=by
 have h1:¬s.toList=[]:=by rw [Go.ByteArray.toList_eq];exact fun e=>h ((eJ s).1 e)
 exact⟨h1,by cases hq:s.toList with
  |nil=>exact absurd hq h1
  |cons a l=>rfl⟩
theorem mo{s:ByteArray}{R:List UInt8 × Nat}(h:Hid (bN s.data.toList=R))(hs:s.size≤1000000)(w:World):Calls Tryz.prog 267 #[.string s] w fun e w'=>e=.returned (.tuple #[.string ⟨R.1.toArray⟩,.int .i64 (R.2:Int)])∧Sm No w w':=by
 rw [←h.out];exact wM s hs w
theorem kg{s r:ByteArray}(h:Hid ((⟨(aQ s.data.toList).toArray⟩:ByteArray)=r))(w:World):Calls Tryz.prog 261 #[.string s,.string ⟨#[9,32]⟩] w fun e w'=>e=.returned (.string r)∧Sm No w w':=by
 rw [←h.out];exact qV s w
theorem xW{c:UInt8}{r:List UInt8}(h:c=59):cj (c::r)=if eo (aQ r)=[] then none else jN (eo (aQ r)) ((aQ r).drop (eo (aQ r)).length):=by
 rw [cj,if_pos h]
theorem mt(l:List UInt8):(aQ l).length≤l.length:=(List.dropWhile_sublist io (l:=l)).length_le
theorem ya(s:ByteArray)(hs:s.size≤1000000)(w:World):Calls Tryz.prog 262 #[.string s] w (Aj s w):=by
 by_cases h0:s.size=0
 ·have hn:=(eJ s).2 h0;have hp:cj s.data.toList=none:=by rw [hn];rfl
  have HP:=aa hp;obtain⟨h1,h2⟩:=kF h0;clear hn hp;go_in;go_wp2_with fail;refine bodyPost_ret (v:=.tuple #[.agg #[.string ⟨#[]⟩,.string ⟨#[]⟩],.string s,.bool false]) (by simp [results,Tryz.results262,go_sem]) rfl ⟨?_,Or.inl ⟨HP.out,_,_,_,rfl⟩⟩;exact(Sm.refl No w).alloc _
 ·have hl:=eM s 0 (by omega);rw [List.drop_zero] at hl;obtain⟨h1,h2⟩:=iy h0;by_cases hq:s[0]=59
  ·have hpe:=xW (r:=s.data.toList.drop 1) hq;rw [←hl] at hpe;have hq1:((s[0].toNat:Int) != 59)=false:=by simp [hq]
   have hz:0 < s.size:=by omega
   have hz1:(1:Int)≤(s.size:Int):=by omega
   obtain⟨r,hr⟩:=ai ((⟨(aQ (s.extract 1 s.size).data.toList).toArray⟩:ByteArray));have hrd:r.data.toList=aQ (s.data.toList.drop 1):=by rw [←hr];show aQ (s.extract 1 s.size).data.toList=_;rw [Lib.extract_to_end]
   have hrs:r.size≤1000000:=by
    rw [aw,hrd];have:=mt (s.data.toList.drop 1);rw [List.length_drop,←aw] at this;omega
   rw [←hrd] at hpe;have HPE:=aa hpe;have HR:=aa hr;have hb0:=Bk.new w 315 #[.string ⟨#[]⟩,.string ⟨#[]⟩];have hs0:=(Sm.refl No w).alloc (.cells #[.string ⟨#[]⟩,.string ⟨#[]⟩] 315);have HB:=aa (ab hb0 hs0);clear hpe hl hq hr hrd hb0 hs0;go_in;go_wp2_with fail;refine(kg HR _).mono ?_;rintro e w1 ⟨rfl,hs1⟩;have hb1:=HB.out.1.sm hs1 (fun h=>h);have hs2:=HB.out.2.tt hs1;have c0:=hb1.at 0 (v:=.string ⟨#[]⟩) rfl;have c1:=hb1.at 1 (v:=.string ⟨#[]⟩) rfl;have z0:=hb1.fz 0;have z1:=hb1.fz 1;have HB1:=aa hs2;have HBK:=aa hb1;clear hs1 hb1 hs2;go_wp2_with fail;refine(pE r hrs _).mono ?_;rintro e w2 ⟨k,hk,hkt,rfl,rfl⟩;obtain⟨nm,hnm⟩:∃ x,r.extract 0 k=x:=⟨_,rfl⟩;have hnd:nm.data.toList=eo r.data.toList:=by rw [←hnm,Lib.extract_data,List.drop_zero,←hkt];simp
   have hns:nm.size=k:=by rw [aw,hnd,←hkt];simp;omega
   rw [hnm];have HN:=aa (ab hnd hns);have hnk:nm.size≤r.size:=by omega
   have hnk2:(nm.size:Int)≤(r.size:Int):=by omega
   clear hnm hnd hns hkt;by_cases hk0:nm.size=0
   ·have hp:cj s.data.toList=none:=by rw [HPE.out,if_pos (by rw [←HN.out.1];exact(eJ nm).2 hk0)]
    have HP:=aa hp;obtain⟨g1,g2⟩:=kF hk0;clear hp;go_wp2_with fail;refine bodyPost_ret (v:=.tuple #[.agg #[.string nm,.string ⟨#[]⟩],.string r,.bool false]) (by simp [results,Tryz.results262,go_sem,c0,c1]) rfl ⟨?_,Or.inl ⟨HP.out,_,_,_,rfl⟩⟩;exact((HB1.out.setN (Nat.le_refl _) _ _).setN (Nat.le_refl _) _ _).setN (Nat.le_refl _) _ _
   ·obtain⟨g1,g2⟩:=iy hk0;obtain⟨t,ht⟩:∃ x,r.extract nm.size r.size=x:=⟨_,rfl⟩;have htd:t.data.toList=r.data.toList.drop (eo r.data.toList).length:=by rw [←ht,Lib.extract_to_end,←HN.out.1,←aw]
    have hts:t.size≤1000000:=by rw [←ht];simp;omega
    have hpe:=HPE.out;rw [if_neg (by rw [←HN.out.1];exact fun e=>hk0 ((eJ nm).1 e)),←htd,←HN.out.1] at hpe;have HPE2:=aa hpe;clear hpe htd;by_cases ht0:t.size=0
    ·have hp:cj s.data.toList=some ((nm.data.toList,(⟨#[]⟩:ByteArray).data.toList),t.data.toList):=by rw [HPE2.out,(eJ t).2 ht0];rfl
     have HP:=aa hp;obtain⟨g3,g4⟩:=kF ht0;clear hp;go_wp2_with fail;refine bodyPost_ret (v:=.tuple #[.agg #[.string nm,.string ⟨#[]⟩],.string t,.bool true]) (by simp [results,Tryz.results262,go_sem,c0,c1]) rfl ⟨?_,Or.inr ⟨nm,⟨#[]⟩,t,HP.out,rfl⟩⟩;exact((HB1.out.setN (Nat.le_refl _) _ _).setN (Nat.le_refl _) _ _).setN (Nat.le_refl _) _ _
    ·obtain⟨g3,g4⟩:=iy ht0;have htl:=eM t 0 (by omega);rw [List.drop_zero] at htl;by_cases hq2:t[0]=61
     ·have hpe:=HPE2.out;rw [htl,jN,if_pos hq2] at hpe;obtain⟨u,hu⟩:∃ x,t.extract 1 t.size=x:=⟨_,rfl⟩;have hud:u.data.toList=t.data.toList.drop 1:=by rw [←hu,Lib.extract_to_end]
      have hus:u.size≤1000000:=by rw [←hu];simp;omega
      have hq3:((t[0].toNat:Int) != 61)=false:=by simp [hq2]
      have ht1:(1:Int)≤(t.size:Int):=by omega
      rw [←hud] at hpe;obtain⟨⟨Q,n⟩,hQ⟩:∃ R,bN u.data.toList=R:=⟨_,rfl⟩;rw [hQ] at hpe;have HPE3:=aa hpe;have HQ:=aa hQ;have hnu:n≤u.size:=by
       by_cases hn:n=0
       ·omega
       ·rw [aw];exact(uM hQ hn).1
      clear hpe hud hQ htl hq2;have hbS:Bk (w1.setCell ⟨w.heap.size,0,none⟩ (.string nm)) w.heap.size 315 #[.string nm,.string ⟨#[]⟩]:=(HBK.out.set 0 _).eq (by rfl);have HS:=aa (ab hbS (HB1.out.setN (Nat.le_refl _) 0 (.string nm)));clear hbS;by_cases hn:n=0
      ·subst hn;go_wp2_with fail;refine(mo HQ hus _).mono ?_;rintro e w3 ⟨rfl,hs3⟩;have H3:=aa (ab (HS.out.1.sm hs3 (fun h=>h)) (HS.out.2.tt hs3));have d0:=H3.out.1.at 0 (v:=.string nm) rfl;have d1:=H3.out.1.at 1 (v:=.string ⟨#[]⟩) rfl;have y0:=H3.out.1.fz 0;have y1:=H3.out.1.fz 1;clear hs3 c0 c1 z0 z1;go_wp2_with fail;refine(pE u hus _).mono ?_;rintro e w4 ⟨k2,hk2,hkt2,rfl,rfl⟩;obtain⟨v,hv⟩:∃ x,u.extract 0 k2=x:=⟨_,rfl⟩;have hvd:v.data.toList=eo u.data.toList:=by rw [←hv,Lib.extract_data,List.drop_zero,←hkt2];simp
       have hvs:v.size=k2:=by rw [aw,hvd,←hkt2];simp;omega
       rw [hv];have hbV:Bk (w3.setCell ⟨w.heap.size,1,none⟩ (.string v)) w.heap.size 315 #[.string nm,.string v]:=(H3.out.1.set 1 _).eq (by rfl);have hsV:=H3.out.2.setN (Nat.le_refl _) 1 (.string v);have HV:=aa (ab hvd hvs);have hvu:v.size≤u.size:=by omega
       have hvu2:(v.size:Int)≤(u.size:Int):=by omega
       clear hv hvd hvs hkt2;go_wp2_with fail;generalize w3.setCell ⟨w.heap.size,1,none⟩ (.string v)=w5 at hbV hsV ⊢;have f0:=hbV.at 0 (v:=.string nm) rfl;have f1:=hbV.at 1 (v:=.string v) rfl;have x0:=hbV.fz 0;have x1:=hbV.fz 1;clear d0 d1 y0 y1
       go_region
       all_goals
        go_wp2_with fail;have hbF:Bk ((w5.setCell ⟨w.heap.size,0,none⟩ (.string nm)).setCell ⟨w.heap.size,1,none⟩ (.string v)).drew w.heap.size 315 #[.string nm,.string v]:=(((hbV.set 0 _).set 1 _).drew).eq (by rfl);have e0:=hbF.at 0 (v:=.string nm) rfl;have e1:=hbF.at 1 (v:=.string v) rfl;have hsF:=((hsV.setN (Nat.le_refl _) 0 (.string nm)).setN (Nat.le_refl _) 1 (.string v)).drew;by_cases hv0:v.size=0
        ·obtain⟨_,q2⟩:=kF hv0;have hp:cj s.data.toList=none:=by rw [HPE3.out,if_pos trivial,if_pos (by rw [←HV.out.1];exact(eJ v).2 hv0)]
         rw [q2];exact bodyPost_ret (v:=.tuple #[.agg #[.string nm,.string v],.string (u.extract v.size u.size),.bool false]) (by simp [results,Tryz.results262,go_sem,f0,f1]) rfl ⟨hsF,Or.inl ⟨hp,_,_,_,rfl⟩⟩
        ·obtain⟨_,q2⟩:=iy hv0;have hp:cj s.data.toList=some ((nm.data.toList,v.data.toList),(u.extract v.size u.size).data.toList):=by
          rw [HPE3.out,if_pos trivial,if_neg (by rw [←HV.out.1];exact fun e=>hv0 ((eJ v).1 e)),Lib.extract_to_end,←HV.out.1,←aw]
         rw [q2];exact bodyPost_ret (v:=.tuple #[.agg #[.string nm,.string v],.string (u.extract v.size u.size),.bool true]) (by simp [results,Tryz.results262,go_sem,f0,f1]) rfl ⟨hsF,Or.inr ⟨nm,v,_,hp,rfl⟩⟩
      ·go_wp2_with fail;refine(mo HQ hus _).mono ?_;rintro e w3 ⟨rfl,hs3⟩;have H3:=aa (ab (HS.out.1.sm hs3 (fun h=>h)) (HS.out.2.tt hs3));have d0:=H3.out.1.at 0 (v:=.string nm) rfl;have d1:=H3.out.1.at 1 (v:=.string ⟨#[]⟩) rfl;have y0:=H3.out.1.fz 0;have y1:=H3.out.1.fz 1;clear hs3 c0 c1 z0 z1;have hn2:0 < n:=by omega
       have hn3:(n:Int)≤(u.size:Int):=by omega
       have hbV:Bk (w3.setCell ⟨w.heap.size,1,none⟩ (.string ⟨Q.toArray⟩)) w.heap.size 315 #[.string nm,.string ⟨Q.toArray⟩]:=(H3.out.1.set 1 _).eq (by rfl);have hsV:=H3.out.2.setN (Nat.le_refl _) 1 (.string ⟨Q.toArray⟩);go_wp2_with fail;generalize w3.setCell ⟨w.heap.size,1,none⟩ (.string ⟨Q.toArray⟩)=w5 at hbV hsV ⊢;have f0:=hbV.at 0 (v:=.string nm) rfl;have f1:=hbV.at 1 (v:=.string ⟨Q.toArray⟩) rfl;have x0:=hbV.fz 0;have x1:=hbV.fz 1;clear d0 d1 y0 y1
       go_region
       all_goals
        go_wp2_with fail;have hsF:=((hsV.setN (Nat.le_refl _) 0 (.string nm)).setN (Nat.le_refl _) 1 (.string ⟨Q.toArray⟩)).drew;have hp:cj s.data.toList=some ((nm.data.toList,(⟨Q.toArray⟩:ByteArray).data.toList),(u.extract n u.size).data.toList):=by
         rw [HPE3.out,if_neg hn,Lib.extract_to_end]
        exact bodyPost_ret (v:=.tuple #[.agg #[.string nm,.string ⟨Q.toArray⟩],.string (u.extract n u.size),.bool true]) (by simp [results,Tryz.results262,go_sem,f0,f1]) rfl ⟨hsF,Or.inr ⟨nm,⟨Q.toArray⟩,_,hp,rfl⟩⟩
     ·have hp:cj s.data.toList=some ((nm.data.toList,(⟨#[]⟩:ByteArray).data.toList),t.data.toList):=by rw [HPE2.out,htl,jN,if_neg hq2]
      have HP:=aa hp;have hq3:((t[0].toNat:Int) != 61)=true:=by
       simp;intro h;exact hq2 (UInt8.toNat_inj.mp (by have:(61:UInt8).toNat=61:=rfl;omega))
      have htz:0 < t.size:=by omega
      clear hp hq2 htl;go_wp2_with fail;refine bodyPost_ret (v:=.tuple #[.agg #[.string nm,.string ⟨#[]⟩],.string t,.bool true]) (by simp [results,Tryz.results262,go_sem,c0,c1]) rfl ⟨?_,Or.inr ⟨nm,⟨#[]⟩,t,HP.out,rfl⟩⟩;exact((HB1.out.setN (Nat.le_refl _) _ _).setN (Nat.le_refl _) _ _).setN (Nat.le_refl _) _ _
  ·have hp:cj s.data.toList=none:=by rw [hl,cj,if_neg hq]
   have HP:=aa hp;have hq1:((s[0].toNat:Int) != 59)=true:=by
    simp;intro h;exact hq (UInt8.toNat_inj.mp (by have:(59:UInt8).toNat=59:=rfl;omega))
   have hz:0 < s.size:=by omega
   clear hp hl hq;go_in;go_wp2_with fail;refine bodyPost_ret (v:=.tuple #[.agg #[.string ⟨#[]⟩,.string ⟨#[]⟩],.string s,.bool false]) (by simp [results,Tryz.results262,go_sem]) rfl ⟨?_,Or.inl ⟨HP.out,_,_,_,rfl⟩⟩;exact(Sm.refl No w).alloc _
abbrev wJ:=List UInt8 × List UInt8
def ir(l:List wJ):List Value:=l.flatMap fun p=>[aP p.1,aP p.2]
theorem oh(l:List wJ)(p:wJ):ir (l++[p])=ir l++[aP p.1,aP p.2]:=by simp [ir]
def qx(t:TypeId)(w:World)(B:Nat)(v:Value)(l:List wJ):Prop:=w.ownsRow B t 2 v l.length (ir l)
theorem qx.no{t:TypeId}{w w':World}{B:Nat}{v:Value}{l:List wJ}(h:qx t w B v l)(hs:Sm No w w'):qx t w' B v l:=ae h hs (fun _ _ h=>h)
def mL(t:TypeId)(s:ByteArray)(w:World)(e:Ending)(w':World):Prop:=
 (∃ r v,cc s.data.toList=some r∧e=.returned (.tuple #[v,.bool true])∧qx t w' w.heap.size v r∧r.length≤16∧Sm No w w')∨
 (cc s.data.toList=none∧e=.returned (.tuple #[.slice none 0 0,.bool false])∧Sm No w w')
theorem vv{n l r:List UInt8}{p:wJ}(h:jN n l=some (p,r)):r.length≤l.length:=by
 cases l with
 |nil=>simp only [jN,Option.some.injEq,Prod.mk.injEq] at h;rw [←h.2];exact Nat.le_refl _
 |cons d s=>
  rw [jN] at h;split at h
  ·split at h
   ·split at h
    ·cases h
    ·simp only [Option.some.injEq,Prod.mk.injEq] at h;rw [←h.2];simp;omega
   ·simp only [Option.some.injEq,Prod.mk.injEq] at h;rw [←h.2];simp;omega
  ·simp only [Option.some.injEq,Prod.mk.injEq] at h;rw [←h.2];exact Nat.le_refl _
theorem uW{l r:List UInt8}{p:wJ}(h:cj l=some (p,r)):r.length < l.length:=by
 cases l with
 |nil=>simp [cj] at h
 |cons c l=>
  rw [cj] at h;split at h
  ·split at h
   ·cases h
   ·have h1:=vv h;have h2:=mt l;simp at h1 ⊢;omega
  ·cases h
theorem rK{k:Nat}{acc:List wJ}{s:List UInt8}(h:aQ s=[]):dd (k+1) acc s=some acc:=by rw [dd,if_pos h]
theorem kx{k:Nat}{acc:List wJ}{s:List UInt8}(h:aQ s≠[])(hp:cj (aQ s)=none):dd (k+1) acc s=none:=by rw [dd,if_neg h,hp]
theorem qb{acc:List wJ}{s:List UInt8}{x:wJ × List UInt8}(h:aQ s≠[])(hp:cj (aQ s)=some x):dd 1 acc s=none:=by rw [dd,if_neg h,hp];rfl
theorem pY{k:Nat}{acc:List wJ}{s r:List UInt8}{p:wJ}(h:aQ s≠[])(hp:cj (aQ s)=some (p,r))(hk:k≠0):dd (k+1) acc s=dd k (acc++[p]) r:=by rw [dd,if_neg h,hp];show (if k=0 then none else _)=_;rw [if_neg hk]
def FI(t:TypeId)(s0:ByteArray)(w:World)(s l:Value)(wr:World):Prop:=
 ∃ (x:ByteArray) (acc:List wJ),s=.string x∧x.size≤1000000∧acc.length≤16∧cc s0.data.toList=dd (17-acc.length) acc x.data.toList∧qx t wr w.heap.size l acc∧Sm No w wr
theorem EH:(Tryz.prog.info? 315).map (fun i=>(i.zero,i.size,i.bytes))=some (some (.agg #[.string ⟨#[]⟩,.string ⟨#[]⟩]),2,32):=by kernel_rfl
theorem uV(s0:ByteArray)(hs0:s0.size≤1000000)(w:World):Calls Tryz.prog 253 #[.string s0] w (mL 315 s0 w):=by
 go_in;go_wp2_with fail
 go_loopw [0,4] (fun s l wr=>FI 315 s0 w s l wr) (fun s _ _=>iq s)
 case atStart=>exact⟨s0,[],rfl,hs0,by simp,rfl,World.ownsRow_nil _ _ _ 2,Sm.refl _ _⟩
 case round=>
  obtain⟨x,acc,rfl,hx,hacc,hP,hO,hsm⟩:=hrel;obtain⟨r,hr⟩:=ai ((⟨(aQ x.data.toList).toArray⟩:ByteArray));have hrd:r.data.toList=aQ x.data.toList:=by rw [←hr]
  have hrx:r.size≤x.size:=by
   rw [aw,aw,hrd];exact mt _
  obtain⟨k,hk⟩:∃ k,17-acc.length=k+1:=⟨16-acc.length,by omega⟩;rw [hk] at hP;have HR:=aa hr;have HP:=aa (ab hP (ab hO (ab hsm hrd)));clear hr hP hO hsm hrd;go_wp2_with fail;refine(kg HR _).mono ?_;rintro e w1 ⟨rfl,hs1⟩;have HW:=aa (ab (ae HP.out.2.1 hs1 (fun _ _ h=>h)) (HP.out.2.2.1.tt hs1));clear hs1;by_cases h0:r.size=0
  ·obtain⟨g1,g2⟩:=kF h0;have hp:cc s0.data.toList=some acc:=by rw [HP.out.1,rK (by rw [←HP.out.2.2.2];exact(eJ r).2 h0)]
   have HE:=aa hp;clear hp;go_wp2_with fail;go_ret2;exact Or.inl ⟨acc,_,HE.out,rfl,HW.out.1,hacc,HW.out.2⟩
  ·obtain⟨g1,g2⟩:=iy h0;have hne:aQ x.data.toList≠[]:=by rw [←HP.out.2.2.2];exact fun e=>h0 ((eJ r).1 e)
   have HN:=aa hne;clear hne;go_wp2_with fail;refine(ya r (by omega) _).mono ?_;rintro e w2 ⟨hs2,hcase⟩;have HW2:=aa (ab (ae HW.out.1 hs2 (fun _ _ h=>h)) (HW.out.2.tt hs2));clear hs2;rcases hcase with ⟨hno,a,b,q,rfl⟩|⟨a,b,q,hyes,rfl⟩
   ·have hp:cc s0.data.toList=none:=by rw [HP.out.1,kx HN.out (by rw [←HP.out.2.2.2];exact hno)]
    have HE:=aa hp;clear hp hno;go_wp2_with fail;go_ret2;exact Or.inr ⟨HE.out,rfl,HW2.out.2.alloc _⟩
   ·have hql:q.size < r.size:=by
     rw [aw,aw r];exact uW hyes
    rw [HP.out.2.2.2] at hyes;obtain⟨A4,c4,rfl,_⟩:=au HW2.out.1;by_cases h16:acc.length=16
    ·have hp:cc s0.data.toList=none:=by
      have e:k=0:=by omega
      subst e;rw [HP.out.1,qb HN.out hyes]
     have HE:=aa hp;have h16':(((acc.length:Nat):Int)==16)=true:=by rw [h16];rfl
     clear hp hyes;go_wp2_with fail;go_ret2;exact Or.inr ⟨HE.out,rfl,HW2.out.2.alloc _⟩
    ·have hp:cc s0.data.toList=dd (17-(acc++[(a.data.toList,b.data.toList)]).length) (acc++[(a.data.toList,b.data.toList)]) q.data.toList:=by
      rw [HP.out.1,pY HN.out hyes (by omega)];congr 1;simp;omega
     have HE:=aa hp;have h16':(((acc.length:Nat):Int)==16)=false:=by simp;omega
     clear hp hyes;go_wp2_with (refine aY rfl _ _ 303 315 rfl Tryz.underlying303 _ 2 32 EH rfl (by decide) (by decide) w.heap.size _ (.slice A4 acc.length c4) _ rfl (World.ownsRow.alloc (World.ownsRow.alloc HW2.out.1 _) _) _ #[.string a,.string b] rfl (Bk.newAt _ _ _ (by simp)) rfl (by simp [Value.oneCell']) (by omega) (by have:=HW2.out.2.size;simp;omega) ?_;intro v' w5 hown5 hs5 hv5);have hO5:qx 315 w5 w.heap.size v' (acc++[(a.data.toList,b.data.toList)]):=by
      unfold qx;rw [oh,List.length_append];exact hown5
     have hS5:Sm No w w5:=(((HW2.out.2.alloc (.cells #[.string a,.string b] 315)).alloc (.cells #[.string a,.string b] 315))).trans hs5 (fun b hb e=>by
      have:=(World.ownsRow.lt HW2.out.1 b e).1;omega)
     have H5:=aa (ab hO5 hS5);clear hO5 hS5 hown5 hs5 hv5;go_wp2_with fail;exact⟨⟨q,acc++[(a.data.toList,b.data.toList)],rfl,by omega,by simp;omega,HE.out,H5.out.1,H5.out.2⟩,by simp [iq];omega⟩
theorem bi.row{w:World}{B:Nat}{v:Value}{l:List (List UInt8)}(h:bi w B v l):∃ A c,v=.slice A l.length c∧ax w A (l.map aP)∧(∀ a,A=some a→B≤a.block∧a.block < w.heap.size):=by
 obtain⟨A,c,rfl,hR,_,_⟩:=au h;exact⟨A,c,rfl,hR,fun a ha=>by subst ha;exact World.ownsRow.lt h a.block rfl⟩
theorem qx.row{t:TypeId}{w:World}{B:Nat}{v:Value}{l:List wJ}(h:qx t w B v l):∃ A c,v=.slice A l.length c∧ax w A (ir l):=by
 obtain⟨A,c,rfl,hR,_,_⟩:=au h;exact⟨A,c,rfl,hR⟩
theorem ax.at{w:World}{A:Option Addr}{cs:List Value}(h:ax w A cs){j:Nat}{u:Value}(hj:cs[j]?=some u):∃ bb off,A=some ⟨bb,off,none⟩∧bb < w.heap.size∧w.cell? ⟨bb,off+j,none⟩=some u:=h j u hj
theorem gE.rowC{w:World}{A:Option Addr}{vs:List ByteArray}(h:gE w A vs):ax w A ((ar vs).map aP):=by
 intro j u hj;have hlt:j < vs.length:=by simpa [ar] using (List.getElem?_eq_some_iff.1 hj).1
 obtain⟨bb,off,hA,hb,h1⟩:=h j hlt;refine⟨bb,off,hA,hb,?_⟩;rw [h1];simp [ar,hlt] at hj;rw [←hj];rfl
def ik(vs:List ByteArray):Nat:=(vs.map fun s=>1+s.size).sum
theorem zJ{vs:List ByteArray}{s:ByteArray}(h:s∈vs):1+s.size≤ik vs:=by
 induction vs with
 |nil=>cases h
 |cons x vs ih=>
  unfold ik at ih ⊢;rw [List.map_cons,List.sum_cons];rcases List.mem_cons.1 h with rfl|h
  ·omega
  ·have:=ih h;omega
theorem yc(vs:List ByteArray):vs.length≤ik vs:=by
 induction vs with
 |nil=>simp
 |cons x vs ih=>unfold ik at ih ⊢;rw [List.map_cons,List.sum_cons,List.length_cons];omega
theorem uF(vs:List ByteArray):(cX vs 0).length≤ik vs:=by
 unfold cX ar;rw [List.drop_zero]
 induction vs with
 |nil=>simp
 |cons x vs ih=>
  unfold ik at ih ⊢;rw [List.map_cons,List.flatMap_cons,List.length_append,List.map_cons,List.sum_cons];have:=ra x.data.toList;rw [←aw] at this;omega
structure iI (vs:List ByteArray):Prop where
 len:vs.length≤3000
 size:∀ s∈vs,s.size≤3000
 rest:(cX vs 0).length≤3000
 cost:ik vs≤3000
theorem Cu{vs:List ByteArray}(h:ik vs≤3000):iI vs:=
 ⟨Nat.le_trans (yc vs) h,fun s hs=>by have:=zJ hs;omega,Nat.le_trans (uF vs) h,h⟩
theorem kR:∀ (ps acc r:List (List UInt8)),dr acc ps=some r→r.length≤acc.length+ps.length
 |[],acc,r,h=>by simp [dr] at h;subst h;simp
 |p::ps,acc,r,h=>by
  by_cases h1:ay p=[]
  ·rw [ix acc ps h1] at h;have:=kR ps acc r h;simp;omega
  ·cases h2:bo (ay p)
   ·rw [li acc ps h1 h2] at h;cases h
   ·rw [kX acc ps h1 h2] at h;have:=kR ps _ r h;simp at this ⊢;omega
theorem sd{vs:List ByteArray}{r:List (List UInt8)}(h:aO (ar vs)=some r):r.length≤(cX vs 0).length:=by
 have:=kR _ _ _ h;simpa [cX] using this
theorem iI.many{vs:List ByteArray}(h:iI vs){r:List (List UInt8)}(hr:aO (ar vs)=some r):r.length≤3000:=Nat.le_trans (sd hr) h.rest
def DM(T:Option (List (List UInt8)))(t:List UInt8):Bool:=match T with
 |some r=>r.any (·==bV t)
 |none=>false
theorem pO(r:List (List UInt8))(x:List UInt8):Lib.containsS (r.map fun l=>(⟨l.toArray⟩:ByteArray)) ⟨x.toArray⟩=r.any (·==x):=by
 rw [Bool.eq_iff_iff,Lib.containsS_iff,List.any_eq_true,List.mem_map];constructor
 ·rintro⟨l,hl,e⟩;have:l=x:=by
   have:=congrArg (fun b:ByteArray=>b.data.toList) e;simpa using this
  exact⟨l,hl,by simp [this]⟩
 ·rintro⟨l,hl,e⟩;exact⟨l,hl,by rw [beq_iff_eq.1 e]⟩
theorem Bk.rowC{w:World}{g:Nat}{t:TypeId}{cs:Array Value}(h:Bk w g t cs):ax w (some ⟨g,0,none⟩) cs.toList:=fun j u hj=>⟨g,0,rfl,h.lt,by rw [Nat.zero_add];exact h.at j (by simpa using hj)⟩
theorem EQ{w:World}(h:w.ShapedOpen Tryz.prog):G0 w:=Tryz.laysM146.s1_3 w h
section
open Go.WideShapes Go.ChangeShapes
variable {H:Type} {enc:TypeId × Value→H} {w:World}
end
theorem iI.tokens{vs:List ByteArray}(h:iI vs)(w:World)(A:Option Addr)(c:Nat)(hg:G0 w)(hA:gE w A vs):Calls Tryz.prog 250 #[.slice A vs.length c] w (pH w vs):=
 vC w A c vs hg hA (by have:=h.len;omega) (fun s hs=>by have:=h.size s hs;omega) (by have:=h.rest;omega)
theorem jM:∀ (ps acc r:List (List UInt8)) (m:Nat),dr acc ps=some r→(∀ l∈acc,l.length≤m)→(∀ p∈ps,p.length≤m)→∀ l∈r,l.length≤m
 |[],acc,r,m,h,ha,_=>by simp [dr] at h;subst h;exact ha
 |p::ps,acc,r,m,h,ha,hp=>by
  by_cases h1:ay p=[]
  ·rw [ix acc ps h1] at h;exact jM ps acc r m h ha (fun q hq=>hp q (List.mem_cons_of_mem _ hq))
  ·cases h2:bo (ay p)
   ·rw [li acc ps h1 h2] at h;cases h
   ·rw [kX acc ps h1 h2] at h;refine jM ps _ r m h (fun l hl=> ?_) (fun q hq=>hp q (List.mem_cons_of_mem _ hq));rcases List.mem_append.1 hl with g|g
    ·exact ha l g
    ·obtain rfl:=List.mem_singleton.1 g;have e1:=iG p;have e2:=hp p (by simp);unfold bV;rw [List.length_map];omega
theorem iI.toks{vs:List ByteArray}(h:iI vs){r:List (List UInt8)}(hr:aO (ar vs)=some r):∀ l∈r,l.length≤3001:=by
 refine jM _ _ _ 3001 hr (fun l hl=>by cases hl) (fun p hp=> ?_);obtain⟨v,hv,hpv⟩:=List.mem_flatMap.1 hp;obtain⟨s,hs,rfl⟩:=List.mem_map.1 hv;have e1:=mq hpv;have e2:=h.size s hs;rw [←aw] at e1;omega
end Go.Proofs.YtadcjgopaadfjaaGreatDoor
