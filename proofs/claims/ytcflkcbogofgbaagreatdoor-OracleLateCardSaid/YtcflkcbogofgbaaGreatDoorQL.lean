import Derived.Lib.SplitLaws
import Derived.Lib.IndexBytes
import Derived.Test.YtcflkcbogofgbaaGreatDoorQB
import Derived.Test.YtcflkcbogofgbaaGreatDoorQO
import Derived.WalkSpells
import Derived.Deep.QuietTactic
import Derived.BigQuiet
import Derived.Deep.RegionHeld3
import Derived.RegionTactic
import Derived.BigRegion
import Derived.Test.YtcflkcbogofgbaaGreatDoorQN
set_option maxHeartbeats 16000000
set_option maxRecDepth 100000
namespace Go.Proofs.YtcflkcbogofgbaaGreatDoor
def bh:List UInt8→List UInt8→Nat→List UInt8 × Nat
 |[],_,_=>([],0)
 |[c],acc,i=>if c=34 then (acc,i+1) else ([],0)
 |c::d::r,acc,i=>
  if c=34 then (acc,i+1)
  else if c=92 then (if fa d=true then bh r (acc++[d]) (i+2) else ([],0))
  else if fa c=true then bh (d::r) (acc++[c]) (i+1) else ([],0)
def be:List UInt8→List UInt8 × Nat
 |[]=>([],0)
 |c::r=>if c=34 then bh r [] 1 else ([],0)
theorem iz(c:UInt8)(r acc:List UInt8)(i:Nat)(h:c=34):bh (c::r) acc i=(acc,i+1):=by
 cases r<;>simp [bh,h]
theorem fX(d:UInt8)(r acc:List UInt8)(i:Nat):bh (92::d::r) acc i=if fa d=true then bh r (acc++[d]) (i+2) else ([],0):=by
 simp [bh]
theorem mH(acc:List UInt8)(i:Nat):bh [92] acc i=([],0):=by simp [bh]
theorem ff(c:UInt8)(r acc:List UInt8)(i:Nat)(h1:c≠34)(h2:c≠92):bh (c::r) acc i=if fa c=true then bh r (acc++[c]) (i+1) else ([],0):=by
 cases r with
 |nil=>simp [bh,h1]
 |cons d r=>simp [bh,h1,h2]
theorem kg:∀ (r acc:List UInt8) (i:Nat) (a:List UInt8) (n:Nat),bh r acc i=(a,n)→n≠0→
 i < n∧n≤i+r.length∧bh (r.take (n-i)) acc i=(a,n)∧(bh (r.take (n-1-i)) acc i).2=0
 |[],acc,i,a,n,h,hn=>by simp [bh] at h;omega
 |[c],acc,i,a,n,h,hn=>by
  by_cases h1:c=34
  ·rw [iz c [] acc i h1] at h;injection h with h2 h3;subst h3;have e1:i+1-i=1:=by omega
   have e2:i+1-1-i=0:=by omega
   rw [e1,e2];exact⟨by omega,by simp,by simp [bh,h1,h2],by simp [bh]⟩
  ·simp [bh,h1] at h;omega
 |c::d::r,acc,i,a,n,h,hn=>by
  by_cases h1:c=34
  ·rw [iz c _ acc i h1] at h;injection h with h2 h3;subst h3;have e1:i+1-i=1:=by omega
   have e2:i+1-1-i=0:=by omega
   rw [e1,e2];exact⟨by omega,by simp,by simp [bh,h1,h2],by simp [bh]⟩
  ·by_cases h2:c=92
   ·subst h2;rw [fX] at h;split at h
    ·rename_i hd
     obtain⟨g1,g2,g3,g4⟩:=kg r _ _ a n h hn;have e1:n-i=(n-(i+2))+1+1:=by omega
     refine⟨by omega,by simp at g2 ⊢;omega,?_,?_⟩
     ·rw [e1,List.take_succ_cons,List.take_succ_cons,fX,if_pos hd];exact g3
     ·rcases Nat.lt_or_ge (n-1) (i+2) with g|g
      ·have e2:n-1-i=1:=by omega
       rw [e2];simp [bh]
      ·have e2:n-1-i=(n-1-(i+2))+1+1:=by omega
       rw [e2,List.take_succ_cons,List.take_succ_cons,fX,if_pos hd];exact g4
    ·injection h with _ h3;omega
   ·rw [ff c _ acc i h1 h2] at h;split at h
    ·rename_i hd
     obtain⟨g1,g2,g3,g4⟩:=kg (d::r) _ _ a n h hn;have e1:n-i=(n-(i+1))+1:=by omega
     refine⟨by omega,by simp at g2 ⊢;omega,?_,?_⟩
     ·rw [e1,List.take_succ_cons,ff c _ acc i h1 h2,if_pos hd];exact g3
     ·rcases Nat.lt_or_ge (n-1) (i+1) with g|g
      ·omega
      ·have e2:n-1-i=(n-1-(i+1))+1:=by omega
       rw [e2,List.take_succ_cons,ff c _ acc i h1 h2,if_pos hd];exact g4
    ·injection h with _ h3;omega
theorem nP{l a:List UInt8}{n:Nat}(h:be l=(a,n))(hn:n≠0):n≤l.length∧be (l.take n)=(a,n)∧(be (l.take (n-1))).2=0∧2≤n:=by
 cases l with
 |nil=>simp [be] at h;omega
 |cons c r=>
  by_cases hc:c=34
  ·rw [be,if_pos hc] at h;obtain⟨g1,g2,g3,g4⟩:=kg r [] 1 a n h hn;obtain⟨m,rfl⟩:∃ m,n=m+2:=⟨n-2,by omega⟩;refine⟨by simp;omega,?_,?_,by omega⟩
   ·rw [List.take_succ_cons,be,if_pos hc];exact g3
   ·have e:m+2-1=m+1:=by omega
    rw [e,List.take_succ_cons,be,if_pos hc];exact g4
  ·rw [be,if_neg hc] at h;injection h with _ h;omega
def bZ:List UInt8→List UInt8→List (List UInt8)
 |_,[]=>[]
 |cur,c::l=>if c=44 then cur::bZ [] l else bZ (cur++[c]) l
def eQ(v:List UInt8):List (List UInt8):=bZ [] (v++[44])
theorem qQ(cur x y:List UInt8):bZ cur (x++44::y)=bZ cur (x++[44])++bZ [] y:=by
 induction x generalizing cur with
 |nil=>simp [bZ]
 |cons c x ih=>
  simp only [List.cons_append,bZ];split
  ·rw [ih];rfl
  ·exact ih _
theorem oR(cur x:List UInt8)(h:∀ c∈x,c≠44):bZ cur (x++[44])=[cur++x]:=by
 induction x generalizing cur with
 |nil=>simp [bZ]
 |cons c x ih=>
  rw [List.cons_append,bZ,if_neg (h c (by simp)),ih _ (fun d hd=>h d (by simp [hd]))];simp
theorem uD{v:List UInt8}(h:∀ c∈v,c≠44):eQ v=[v]:=by
 unfold eQ;rw [oR _ _ h];rfl
def dg:List (List UInt8)→List (List UInt8)→Option (List (List UInt8))
 |acc,[]=>some acc
 |acc,p::ps=>if aw p=[] then dg acc ps else if bP (aw p)=true then dg (acc++[aU (aw p)]) ps else none
def az(values:List (List UInt8)):Option (List (List UInt8)):=dg [] (values.flatMap eQ)
theorem gy{p:List UInt8}(acc ps:List (List UInt8))(h:aw p=[]):dg acc (p::ps)=dg acc ps:=by rw [dg,if_pos h]
theorem jx{p:List UInt8}(acc ps:List (List UInt8))(h:aw p≠[])(ht:bP (aw p)=true):dg acc (p::ps)=dg (acc++[aU (aw p)]) ps:=by rw [dg,if_neg h,if_pos ht]
theorem jw{p:List UInt8}(acc ps:List (List UInt8))(h:aw p≠[])(ht:bP (aw p)=false):dg acc (p::ps)=none:=by rw [dg,if_neg h,if_neg (by simp [ht])]
theorem Bq(cur x y:List UInt8)(h:∀ c∈x,c≠44):bZ cur (x++44::y)=(cur++x)::bZ [] y:=by
 rw [qQ,oR _ _ h];rfl
theorem EY{l:List UInt8}{i:Nat}(h:∀ j,j < i→l[j]?≠some 44):∀ c∈l.take i,c≠44:=by
 intro c hc e;subst e;obtain⟨j,hj⟩:=List.getElem?_of_mem hc;have hlt:j < i:=by
  have:=(List.getElem?_eq_some_iff.1 hj).1;rw [List.length_take] at this;omega
 rw [List.getElem?_take,if_pos hlt] at hj;exact h j hlt hj
theorem lz:∀ (k:Nat) (s:List UInt8),Lib.count s [44]=k→Lib.splitK [44] 0 k s=eQ s
 |0,s,h=>by
  rw [Lib.splitK];have:Lib.index s [44]= -1:=by
   rcases bM s 44 with g|⟨i,g⟩
   ·rw [Lib.index_one];exact g
   ·have:=Lib.count_hit (s:=s) (sub:=[44]) (i:=i) (by simp) (by rw [Lib.index_one];exact g);omega
  rw [Lib.index_one] at this;rw [uD (fun c hc e=>by
   subst e;obtain⟨j,hj⟩:=List.getElem?_of_mem hc;exact Lib.indexByte_none this j hj)]
 |k+1,s,h=>by
  rw [Lib.splitK];rcases bM s 44 with g|⟨i,g⟩
  ·have:=Lib.count_miss (s:=s) (sub:=[44]) (by rw [Lib.index_one];exact g);omega
  ·have hi:=kI s 44 i g;have hix:Lib.index s [44]=i:=by rw [Lib.index_one];exact g
   have hc:=Lib.count_hit (s:=s) (sub:=[44]) (i:=i) (by simp) hix;have e0:([44]:List UInt8).length=1:=rfl;rw [e0] at hc;obtain⟨g1,g2⟩:=Lib.indexByte_some g;rw [hix,if_neg (by simp)];have e1:((i:Int)).toNat=i:=by omega
   rw [e1,e0,Nat.add_zero,lz k (s.drop (i+1)) (by omega)];have hs:s=s.take i++44::s.drop (i+1):=by
    have h1:s[i]?=some 44:=g1;rw [List.getElem?_eq_getElem hi] at h1;injection h1 with h1;rw [←h1,List.getElem_cons_drop hi,List.take_append_drop]
   conv=>rhs;rw [hs]
   unfold eQ;rw [List.append_assoc,List.cons_append,Bq _ _ _ (EY g2)];rfl
theorem tw(s:ByteArray):(Lib.splitB ⟨#[44]⟩ 0 (Lib.countB s ⟨#[44]⟩) s).map (·.data.toList)=eQ s.data.toList:=by
 rw [Lib.splitB_data];exact lz _ _ rfl
def cy(l:List UInt8):List UInt8:=l.takeWhile eh
def ii(n:List UInt8):List UInt8→Option ((List UInt8 × List UInt8) × List UInt8)
 |[]=>some ((n,[]),[])
 |d::s=>
  if d=61 then
   if (be s).2=0 then (if cy s=[] then none else some ((n,cy s),s.drop (cy s).length))
   else some ((n,(be s).1),s.drop (be s).2)
  else some ((n,[]),d::s)
def bK:List UInt8→Option ((List UInt8 × List UInt8) × List UInt8)
 |[]=>none
 |c::r=>
  if c=59 then
   if cy (aO r)=[] then none else ii (cy (aO r)) ((aO r).drop (cy (aO r)).length)
  else none
def cn:Nat→List (List UInt8 × List UInt8)→List UInt8→Option (List (List UInt8 × List UInt8))
 |0,_,_=>none
 |k+1,acc,s=>
  if aO s=[] then some acc
  else match bK (aO s) with
   |none=>none
   |some (p,r)=>if k=0 then none else cn k (acc++[p]) r
def br(s:List UInt8):Option (List (List UInt8 × List UInt8)):=cn 17 [] s
end Go.Proofs.YtcflkcbogofgbaaGreatDoor
namespace Go.Proofs.YtcflkcbogofgbaaGreatDoor
open Go.RowKit Go.Proofs
def aM(c:UInt8):Value:=.int .u8 c.toNat
def ay(w:World)(B:Nat)(v:Value)(l:List UInt8):Prop:=w.ownsRow B 5 1 v l.length (l.map aM)
theorem ay.no{w w':World}{B:Nat}{v:Value}{l:List UInt8}(h:ay w B v l)(hs:Sm No w w'):ay w' B v l:=aa h hs (fun _ _ h=>h)
theorem ay.by{w:World}{B:Nat}{v:Value}{l:List UInt8}(h:ay w B v l):(v=.slice none 0 0∧l=[])∨∃ g cap,v=.slice (some ⟨g,0,none⟩) l.length cap∧B≤g∧By w g l:=by
 rcases aR h with ⟨h1,h2,_⟩|⟨g,cap,hv,_,hB,hg,_,hc,hz⟩
 ·exact Or.inl ⟨h1,List.eq_nil_of_length_eq_zero h2⟩
 ·exact Or.inr ⟨g,cap,hv,hB,hg,fun j c hj=>⟨hc j _ (by simp [hj,aM]),hz j⟩⟩
theorem Bk.by1{w:World}{g:Nat}{t:TypeId}{c:UInt8}(h:Bk w g t #[.int .u8 c.toNat]):By w g [c]:=by
 refine⟨h.lt,fun j d hj=> ?_⟩
 match j,hj with
 |0,hj=>obtain rfl:c=d:=by simpa using hj
        exact⟨h.at 0 rfl,h.fz 0⟩
section
variable {P:Program} {ops:Array Oper} {rest:List Oper} {o:Oper} {a:Act} {w:World} {Q:Exit→Act→World→Prop}
theorem kP (hgd:o.guard=none) (src dst e:TypeId) (x:Operand) (ho:o.op=.convert src dst x) (hx:a.eval x=.slice none 0 0)
 (hs:P.underlying src=some (.slice e)) (he:P.underlying e=some (.int .u8)) (hd:P.underlying dst=some .string)
 (h:wpList P ops Q rest (a.put o.dst (.string ⟨#[]⟩)) w):wpList P ops Q (o::rest) a w:=by
 refine wpList_plain hgd fun _ hK=> ?_;unfold Oper.wp execOp;have hr:(convert src dst (.slice none 0 0)).run P w=.ok (.string ⟨#[]⟩) w:=by
  rw [run_convert_bytes_string w src dst e none 0 0 hs he hd];rfl
 simp only [ho,hx,Sem.run_bind,Sem.run_pure,hr,Result.andThen_ok];exact hK _ _ h
theorem dc (hgd:o.guard=none) (src dst:TypeId) (x:Operand) (ho:o.op=.convert src dst x) (B:Nat) (l:List UInt8) (v:Value) (hx:a.eval x=v) (hO:ay w B v l)
 (hs:P.underlying src=some (.slice 5)) (he:P.underlying 5=some (.int .u8)) (hd:P.underlying dst=some .string)
 (h:wpList P ops Q rest (a.put o.dst (.string ⟨l.toArray⟩)) w):wpList P ops Q (o::rest) a w:=by
 rcases hO.by with ⟨rfl,rfl⟩|⟨g,cap,rfl,_,hb⟩
 ·exact kP hgd src dst _ x ho hx hs he hd h
 ·exact aE hgd src dst _ x ho g _ cap l hx hs he hd hb rfl h
end
theorem ai(a:ByteArray):a.size=a.data.toList.length:=by simp
def Ea(p:List UInt8 × Nat):Value:=.tuple #[.string ⟨p.1.toArray⟩,.int .i64 (p.2:Int)]
def Cm(s:ByteArray)(w:World)(b i:Value)(wr:World):Prop:=
 ∃ (k:Nat) (acc:List UInt8),k≤s.size∧1≤k∧i=.int .i64 k∧acc.length≤k∧be s.data.toList=bh (s.data.toList.drop k) acc k∧ay wr w.heap.size b acc∧Sm No w wr
theorem jP{c:UInt8}{r:Bool}(h:Hid (fa c=r))(w:World):Calls Tryz.prog 129 #[.int .u8 c.toNat] w fun e w'=>e=.returned (.bool r)∧w=w':=by
 rw [←h.out];exact gF c w
theorem kS{c:UInt8}{r:Bool}(h:Hid (fa c=r))(w:World):Calls Tryz.prog 100 #[.string ⟨#[c]⟩] w fun e w'=>e=.returned (.bool r)∧w=w':=by
 have:=mC ⟨#[c]⟩ (by show 1≤_;decide) w;have e:eg (⟨#[c]⟩:ByteArray).data.toList=r:=by rw [←h.out];simp [eg]
 rw [e] at this;exact this
theorem ay.push{w:World}{B n:Nat}{v:Value}{l:List UInt8}{c:UInt8}(h:w.ownsRow B 5 1 v (l.length+1) (l.map aM++[.int .u8 c.toNat]))(_:n=0):ay w B v (l++[c]):=by
 unfold ay;rw [List.length_append,List.map_append];exact h
theorem sf(s:ByteArray)(hs:s.size≤1000000)(w:World):
 Calls Tryz.prog 275 #[.string s] w fun e w'=>e=.returned (Ea (be s.data.toList))∧Sm No w w':=by
 obtain⟨R,hR⟩:=Iu (be s.data.toList);rw [hR];by_cases h0:s.size=0
 ·have hn:s.data.toList=[]:=List.eq_nil_of_length_eq_zero (by simpa using h0);rw [hn] at hR;subst hR;have H0:=ns h0;have h1:(((s.size:Nat):Int)==0)=true:=by simp [h0]
  clear hn h0;go_in;go_wp2_with fail
  all_goals
   go_ret2;exact⟨rfl,Sm.refl _ _⟩
 ·have h1:(((s.size:Nat):Int)==0)=false:=by simpa using h0
  have h2:0 < s.size:=by omega
  by_cases hq:s[0]=34
  ·have e0:=bL s 0 h2;rw [List.drop_zero] at e0;have hq1:((s[0].toNat:Int) != 34)=false:=by simp [hq]
   have hL:be s.data.toList=bh (s.data.toList.drop 1) [] 1:=by rw [e0,be,if_pos hq];rfl
   have HL:=ns (BT hL hR);clear e0 hq hL hR h0;go_in;go_wp2_with fail
   go_loopw [4,5] (fun b i wr=>Cm s w b i wr) (fun _ i _=>s.size-(intOf i).toNat)
   case atStart=>exact⟨1,[],h2,Nat.le_refl _,rfl,by simp,HL.out.1,World.ownsRow_nil _ _ _ 1,Sm.refl _ _⟩
   case round=>
    obtain⟨k,acc,hk,hk1,rfl,hacc,hqr,hO,hsm⟩:=hrel;have HQ:=ns (BT hqr (BT hO hsm));clear hqr hO hsm;by_cases hlt:k < s.size
    ·have hd:=bL s k hlt;obtain⟨c,hc⟩:=Iu (s[k]);have hc256:=c.toNat_lt;rw [hc] at hd;by_cases hc1:c=34
     ·have hRR:R=(acc,k+1):=by rw [←HL.out.2,HQ.out.1,hd,iz _ _ _ _ hc1]
      have HRR:=ns hRR;have ht:((c.toNat:Int)==34)=true:=by rw [hc1];rfl
      clear hRR hd hc1;go_wp2_with (refine dc rfl 22 9 _ rfl w.heap.size acc _ rfl HQ.out.2.1 Tryz.underlying22 Tryz.underlying5 Tryz.underlying9 ?_);go_ret2;exact⟨by rw [HRR.out];rfl,HQ.out.2.2⟩
     ·have ht:((c.toNat:Int)==34)=false:=aK (n:=34) (by decide) hc1;by_cases hc2:c=92
      ·have ht2:((c.toNat:Int)==92)=true:=by rw [hc2];rfl
       rw [hc2] at hd;by_cases hl2:k+1 < s.size
       ·have hd2:=bL s (k+1) hl2;obtain⟨d,hdd⟩:=Iu (s[k+1]);have hd256:=d.toNat_lt;rw [hdd] at hd2;obtain⟨f,hf⟩:=Iu (fa d);have HF:=ns hf;have hst:be s.data.toList=if f=true then bh (s.data.toList.drop (k+2)) (acc++[d]) (k+2) else ([],0):=by rw [HQ.out.1,hd,hd2,fX,hf]
        have HD:=ns hst;have hne:((((k:Nat):Int)+1)==(s.size:Int))=false:=by simp;omega
        have k1:(0:Int)≤(k:Int)+1:=by omega
        have k2:(k:Int)+1 < (s.size:Int):=by omega
        clear hd hd2 hf hst hc1 hc2;go_wp2_with fail;refine(jP HF _).mono ?_;rintro e w1 ⟨rfl,rfl⟩
        cases f
        ·have hRR:R=([],0):=by rw [←HL.out.2,HD.out,if_neg (by simp)]
         subst hRR;go_wp2_with fail;go_ret2;exact⟨rfl,HQ.out.2.2⟩
        ·have HR2:Hid (be s.data.toList=bh (s.data.toList.drop (k+2)) (acc++[d]) (k+2)):=by rw [HD.out,if_pos rfl];exact ns rfl
         go_wp2_with (refine aq rfl _ _ 22 5 rfl Tryz.underlying22 _ 1 1 eE rfl (by decide) (by decide) w.heap.size _ u4 _ rfl (World.ownsRow.alloc HQ.out.2.1 _) wr.heap.size #[.int .u8 d.toNat] rfl (Bk.new wr _ _) rfl (by simp [Value.oneCell']) (by omega) (by have:=HQ.out.2.2.size;simp;omega) ?_;intro v' w2 hown2 hs2 hv2);have hO2:ay w2 w.heap.size v' (acc++[d]):=ay.push hown2 rfl;have hS2:Sm No w w2:=(HQ.out.2.2.alloc (.cells #[.int .u8 d.toNat] 5)).trans hs2 (fun b hb e=>by
          have:=(World.ownsRow.lt HQ.out.2.1 b e).1;omega)
         have H2:=ns (BT hO2 hS2);clear hO2 hS2 hown2 hs2 hv2;go_wp2_with fail;exact⟨⟨k+2,acc++[d],by omega,by omega,by go_num,by simp;omega,HR2.out,H2.out.1,H2.out.2⟩,by simp [intOf];omega⟩
       ·have hRR:R=([],0):=by
         rw [←HL.out.2,HQ.out.1,hd,List.drop_eq_nil_of_le (by simp;omega),mH]
        subst hRR;have hne:((((k:Nat):Int)+1)==(s.size:Int))=true:=by simp;omega
        clear hd hc1 hc2;go_wp2_with fail;go_ret2;exact⟨rfl,HQ.out.2.2⟩
      ·have ht2:((c.toNat:Int)==92)=false:=aK (n:=92) (by decide) hc2;obtain⟨f,hf⟩:=Iu (fa c);have HF:=ns hf;have hst:be s.data.toList=if f=true then bh (s.data.toList.drop (k+1)) (acc++[c]) (k+1) else ([],0):=by rw [HQ.out.1,hd,ff _ _ _ _ hc1 hc2,hf]
       have HD:=ns hst;clear hd hf hst hc1 hc2;go_wp2_with fail;refine(jP HF _).mono ?_;rintro e w1 ⟨rfl,rfl⟩
       cases f
       ·have hRR:R=([],0):=by rw [←HL.out.2,HD.out,if_neg (by simp)]
        subst hRR;go_wp2_with fail;go_ret2;exact⟨rfl,HQ.out.2.2⟩
       ·have HR2:Hid (be s.data.toList=bh (s.data.toList.drop (k+1)) (acc++[c]) (k+1)):=by rw [HD.out,if_pos rfl];exact ns rfl
        go_wp2_with (refine aq rfl _ _ 22 5 rfl Tryz.underlying22 _ 1 1 eE rfl (by decide) (by decide) w.heap.size _ u4 _ rfl (World.ownsRow.alloc HQ.out.2.1 _) wr.heap.size #[.int .u8 c.toNat] rfl (Bk.new wr _ _) rfl (by simp [Value.oneCell']) (by omega) (by have:=HQ.out.2.2.size;simp;omega) ?_;intro v' w2 hown2 hs2 hv2);have hO2:ay w2 w.heap.size v' (acc++[c]):=ay.push hown2 rfl;have hS2:Sm No w w2:=(HQ.out.2.2.alloc (.cells #[.int .u8 c.toNat] 5)).trans hs2 (fun b hb e=>by
         have:=(World.ownsRow.lt HQ.out.2.1 b e).1;omega)
        have H2:=ns (BT hO2 hS2);clear hO2 hS2 hown2 hs2 hv2;go_wp2_with fail;exact⟨⟨k+1,acc++[c],by omega,by omega,by go_num,by simp;omega,HR2.out,H2.out.1,H2.out.2⟩,by simp [intOf];omega⟩
    ·have hRR:R=([],0):=by
      rw [←HL.out.2,HQ.out.1,List.drop_eq_nil_of_le (by simp;omega)];rfl
     subst hRR;go_wp2_with fail;go_ret2;exact⟨rfl,HQ.out.2.2⟩
  ·have hq1:((s[0].toNat:Int) != 34)=true:=by
    simp;intro h;exact hq (UInt8.toNat_inj.mp (by have:(34:UInt8).toNat=34:=rfl;omega))
   have e0:=bL s 0 h2;rw [List.drop_zero] at e0;have hL:R=([],0):=by rw [←hR,e0,be,if_neg hq]
   subst hL;clear e0 hq hR h0;go_in;go_wp2_with fail
   all_goals
    go_ret2;exact⟨rfl,Sm.refl _ _⟩
theorem xE(s:ByteArray)(hs:s.size≤1000000)(w:World):
 Calls Tryz.prog 304 #[.string s] w fun e w'=>e=.returned (Ea (be s.data.toList))∧Sm No w w':=by
 obtain⟨R,hR⟩:=Iu (be s.data.toList);rw [hR];by_cases h0:s.size=0
 ·have hn:s.data.toList=[]:=List.eq_nil_of_length_eq_zero (by simpa using h0);rw [hn] at hR;subst hR;have h1:s.toList=[]:=by rw [Go.ByteArray.toList_eq];exact hn
  have h2:s.toList.isEmpty=true:=by rw [h1];rfl
  clear hn h0;go_in;go_wp2_with fail
  all_goals
   go_ret2;exact⟨rfl,Sm.refl _ _⟩
 ·have h2:0 < s.size:=by omega
  have h3:s.toList.isEmpty=false:=by rw [Go.ByteArray.toList_eq];cases hq:s.data.toList with
   |nil=>exact absurd (show s.data.toList.length=0 by rw [hq];rfl) (by rw [←ai];exact h0)
   |cons a l=>rfl
  by_cases hq:s[0]=34
  ·have e0:=bL s 0 h2;rw [List.drop_zero] at e0;have hq1:((s[0].toNat:Int) != 34)=false:=by simp [hq]
   have hL:be s.data.toList=bh (s.data.toList.drop 1) [] 1:=by rw [e0,be,if_pos hq];rfl
   have HL:=ns (BT hL hR);clear e0 hq hL hR h0;go_in;go_wp2_with fail
   go_loopw [4,5] (fun b i wr=>Cm s w b i wr) (fun _ i _=>s.size-(intOf i).toNat)
   case atStart=>exact⟨1,[],h2,Nat.le_refl _,rfl,by simp,HL.out.1,World.ownsRow_nil _ _ _ 1,Sm.refl _ _⟩
   case round=>
    obtain⟨k,acc,hk,hk1,rfl,hacc,hqr,hO,hsm⟩:=hrel;have HQ:=ns (BT hqr (BT hO hsm));clear hqr hO hsm;by_cases hlt:k < s.size
    ·have hd:=bL s k hlt;obtain⟨c,hc⟩:=Iu (s[k]);have hc256:=c.toNat_lt;rw [hc] at hd;by_cases hc1:c=34
     ·have hRR:R=(acc,k+1):=by rw [←HL.out.2,HQ.out.1,hd,iz _ _ _ _ hc1]
      have HRR:=ns hRR;have ht:((c.toNat:Int)==34)=true:=by rw [hc1];rfl
      clear hRR hd hc1;go_wp2_with (refine dc rfl 22 9 _ rfl w.heap.size acc _ rfl HQ.out.2.1 Tryz.underlying22 Tryz.underlying5 Tryz.underlying9 ?_);go_ret2;exact⟨by rw [HRR.out];rfl,HQ.out.2.2⟩
     ·have ht:((c.toNat:Int)==34)=false:=aK (n:=34) (by decide) hc1;by_cases hc2:c=92
      ·have ht2:((c.toNat:Int)==92)=true:=by rw [hc2];rfl
       rw [hc2] at hd;by_cases hl2:k+1 < s.size
       ·have hd2:=bL s (k+1) hl2;obtain⟨d,hdd⟩:=Iu (s[k+1]);have hd256:=d.toNat_lt;rw [hdd] at hd2;obtain⟨f,hf⟩:=Iu (fa d);have HF:=ns hf;have hst:be s.data.toList=if f=true then bh (s.data.toList.drop (k+2)) (acc++[d]) (k+2) else ([],0):=by rw [HQ.out.1,hd,hd2,fX,hf]
        have HD:=ns hst;have hne:((((k:Nat):Int)+1)==(s.size:Int))=false:=by simp;omega
        have k1:(0:Int)≤(k:Int)+1:=by omega
        have k2:(k:Int)+1 < (s.size:Int):=by omega
        clear hd hd2 hf hst hc1 hc2;go_wp2_with (refine aE rfl 22 9 5 _ rfl wr.heap.size 1 1 [d] rfl Tryz.underlying22 Tryz.underlying5 Tryz.underlying9 (Bk.new wr 5 #[.int .u8 d.toNat]).by1 rfl ?_);refine(kS HF _).mono ?_;rintro e w1 ⟨rfl,rfl⟩;have HQ3:=ns (BT (World.ownsRow.alloc HQ.out.2.1 (.cells #[.int .u8 d.toNat] 5)) (HQ.out.2.2.alloc (.cells #[.int .u8 d.toNat] 5)));generalize wr.alloc (.cells #[.int .u8 d.toNat] 5)=wr1 at HQ3 ⊢
        cases f
        ·have hRR:R=([],0):=by rw [←HL.out.2,HD.out,if_neg (by simp)]
         subst hRR;go_wp2_with fail;go_ret2;exact⟨rfl,HQ3.out.2⟩
        ·have HR2:Hid (be s.data.toList=bh (s.data.toList.drop (k+2)) (acc++[d]) (k+2)):=by rw [HD.out,if_pos rfl];exact ns rfl
         go_wp2_with (refine aq rfl _ _ 22 5 rfl Tryz.underlying22 _ 1 1 eE rfl (by decide) (by decide) w.heap.size _ u4 _ rfl (World.ownsRow.alloc HQ3.out.1 _) wr1.heap.size #[.int .u8 d.toNat] rfl (Bk.new wr1 _ _) rfl (by simp [Value.oneCell']) (by omega) (by have:=HQ3.out.2.size;simp;omega) ?_;intro v' w2 hown2 hs2 hv2);have hO2:ay w2 w.heap.size v' (acc++[d]):=ay.push hown2 rfl;have hS2:Sm No w w2:=(HQ3.out.2.alloc (.cells #[.int .u8 d.toNat] 5)).trans hs2 (fun b hb e=>by
          have:=(World.ownsRow.lt HQ3.out.1 b e).1;omega)
         have H2:=ns (BT hO2 hS2);clear hO2 hS2 hown2 hs2 hv2;go_wp2_with fail;exact⟨⟨k+2,acc++[d],by omega,by omega,by go_num,by simp;omega,HR2.out,H2.out.1,H2.out.2⟩,by simp [intOf];omega⟩
       ·have hRR:R=([],0):=by
         rw [←HL.out.2,HQ.out.1,hd,List.drop_eq_nil_of_le (by simp;omega),mH]
        subst hRR;have hne:((((k:Nat):Int)+1)==(s.size:Int))=true:=by simp;omega
        clear hd hc1 hc2;go_wp2_with fail;go_ret2;exact⟨rfl,HQ.out.2.2⟩
      ·have ht2:((c.toNat:Int)==92)=false:=aK (n:=92) (by decide) hc2;obtain⟨f,hf⟩:=Iu (fa c);have HF:=ns hf;have hst:be s.data.toList=if f=true then bh (s.data.toList.drop (k+1)) (acc++[c]) (k+1) else ([],0):=by rw [HQ.out.1,hd,ff _ _ _ _ hc1 hc2,hf]
       have HD:=ns hst;clear hd hf hst hc1 hc2;go_wp2_with (refine aE rfl 22 9 5 _ rfl wr.heap.size 1 1 [c] rfl Tryz.underlying22 Tryz.underlying5 Tryz.underlying9 (Bk.new wr 5 #[.int .u8 c.toNat]).by1 rfl ?_);refine(kS HF _).mono ?_;rintro e w1 ⟨rfl,rfl⟩;have HQ3:=ns (BT (World.ownsRow.alloc HQ.out.2.1 (.cells #[.int .u8 c.toNat] 5)) (HQ.out.2.2.alloc (.cells #[.int .u8 c.toNat] 5)));generalize wr.alloc (.cells #[.int .u8 c.toNat] 5)=wr1 at HQ3 ⊢
       cases f
       ·have hRR:R=([],0):=by rw [←HL.out.2,HD.out,if_neg (by simp)]
        subst hRR;go_wp2_with fail;go_ret2;exact⟨rfl,HQ3.out.2⟩
       ·have HR2:Hid (be s.data.toList=bh (s.data.toList.drop (k+1)) (acc++[c]) (k+1)):=by rw [HD.out,if_pos rfl];exact ns rfl
        go_wp2_with (refine aq rfl _ _ 22 5 rfl Tryz.underlying22 _ 1 1 eE rfl (by decide) (by decide) w.heap.size _ u4 _ rfl (World.ownsRow.alloc HQ3.out.1 _) wr1.heap.size #[.int .u8 c.toNat] rfl (Bk.new wr1 _ _) rfl (by simp [Value.oneCell']) (by omega) (by have:=HQ3.out.2.size;simp;omega) ?_;intro v' w2 hown2 hs2 hv2);have hO2:ay w2 w.heap.size v' (acc++[c]):=ay.push hown2 rfl;have hS2:Sm No w w2:=(HQ3.out.2.alloc (.cells #[.int .u8 c.toNat] 5)).trans hs2 (fun b hb e=>by
         have:=(World.ownsRow.lt HQ3.out.1 b e).1;omega)
        have H2:=ns (BT hO2 hS2);clear hO2 hS2 hown2 hs2 hv2;go_wp2_with fail;exact⟨⟨k+1,acc++[c],by omega,by omega,by go_num,by simp;omega,HR2.out,H2.out.1,H2.out.2⟩,by simp [intOf];omega⟩
    ·have hRR:R=([],0):=by
      rw [←HL.out.2,HQ.out.1,List.drop_eq_nil_of_le (by simp;omega)];rfl
     subst hRR;go_wp2_with fail;go_ret2;exact⟨rfl,HQ.out.2.2⟩
  ·have hq1:((s[0].toNat:Int) != 34)=true:=by
    simp;intro h;exact hq (UInt8.toNat_inj.mp (by have:(34:UInt8).toNat=34:=rfl;omega))
   have e0:=bL s 0 h2;rw [List.drop_zero] at e0;have hL:R=([],0):=by rw [←hR,e0,be,if_neg hq]
   subst hL;clear e0 hq hR h0;go_in;go_wp2_with fail
   all_goals
    go_ret2;exact⟨rfl,Sm.refl _ _⟩
theorem Bu(cur l:List UInt8):∀ p∈bZ cur l,p.length≤cur.length+l.length:=by
 induction l generalizing cur with
 |nil=>intro p hp;cases hp
 |cons c l ih=>
  intro p hp;rw [bZ] at hp;split at hp
  ·rcases List.mem_cons.1 hp with rfl|hp
   ·simp
   ·have:=ih [] p hp;simp at this ⊢;omega
  ·have:=ih _ p hp;simp at this ⊢;omega
theorem pj{v p:List UInt8}(h:p∈eQ v):p.length≤v.length+1:=by
 have:=Bu [] _ p h;simpa using this
theorem xe(cur l:List UInt8):(bZ cur l).length≤l.length:=by
 induction l generalizing cur with
 |nil=>simp [bZ]
 |cons c l ih=>
  rw [bZ];split
  ·have:=ih [];simp;omega
  ·have:=ih (cur++[c]);simp;omega
theorem uy(v:List UInt8):(eQ v).length≤v.length+1:=by
 have:=xe [] (v++[44]);simpa [eQ] using this
theorem BF(s:ByteArray)(hs:s.size≤1000000)(w:World)(hg:G0 w):
 Calls Tryz.prog 141 #[.string s,.string ⟨#[44]⟩] w fun e w'=>∃ ps:List ByteArray,ps.map (·.data.toList)=eQ s.data.toList∧e=.returned (.slice (some ⟨w.heap.size,0,none⟩) ps.length ps.length)∧
  fD w' (some ⟨w.heap.size,0,none⟩) ps∧Sm No w w'∧w.heap.size < w'.heap.size∧∀ p∈ps,p.size≤s.size+1:=by
 obtain⟨m,hm⟩:=hg;refine(Tryz.strings_Split s ⟨#[44]⟩ m w (by omega) hm (by decide)).mono fun e w' ⟨he,hw⟩=> ?_;have hlen:=Lib.splitB_all ⟨#[44]⟩ (by decide) 0 _ s rfl;have hcm:=tw s;refine⟨_,hcm,?_,?_,?_,by rw [hw];simp,?_⟩
 ·rw [hlen];exact he
 ·intro k hk;subst hw;have hb:=Bk.new w 9 ((Lib.splitB ⟨#[44]⟩ 0 (Lib.countB s ⟨#[44]⟩) s).map Value.string).toArray;exact⟨w.heap.size,0,rfl,hb.lt,by rw [Nat.zero_add];exact hb.at k (by simp [hk])⟩
 ·rw [hw];exact(Sm.refl No w).alloc _
 ·intro p hp;have:p.data.toList∈eQ s.data.toList:=by rw [←hcm];exact List.mem_map.2 ⟨p,hp,rfl⟩
  have:=pj this;rw [←ai,←ai] at this;omega
def iG(w:World)(vs:List ByteArray)(e:Ending)(w':World):Prop:=
 (∃ r v,az (aj vs)=some r∧e=.returned (.tuple #[v,.bool true])∧bo w' w.heap.size v r∧Sm No w w')∨
 (az (aj vs)=none∧e=.returned (.tuple #[.slice none 0 0,.bool false])∧Sm No w w')
def cr(vs:List ByteArray)(k:Nat):List (List UInt8):=(aj (vs.drop k)).flatMap eQ
theorem uM{vs:List ByteArray}{k:Nat}(h:k < vs.length):cr vs k=eQ vs[k].data.toList++cr vs (k+1):=by
 unfold cr aj;rw [List.drop_eq_getElem_cons h];rfl
theorem pP{vs:List ByteArray}{k:Nat}(h:¬k < vs.length):cr vs k=[]:=by
 unfold cr aj;rw [List.drop_eq_nil_of_le (by omega)];rfl
def CU(w:World)(vs:List ByteArray)(l i:Value)(wr:World):Prop:=
 ∃ (k:Nat) (acc:List (List UInt8)),k≤vs.length∧i=.int .i64 k∧az (aj vs)=dg acc (cr vs k)∧acc.length+(cr vs k).length≤1000000∧bo wr w.heap.size l acc∧Sm No w wr
def E4(w:World)(gp:Nat)(T:Option (List (List UInt8)))(ps:List ByteArray)(rest:List (List UInt8))(l i:Value)(wr:World):Prop:=
 ∃ (j:Nat) (acc:List (List UInt8)),j≤ps.length∧i=.int .i64 j∧T=dg acc (aj (ps.drop j)++rest)∧acc.length+(aj (ps.drop j)++rest).length≤1000000∧bo wr w.heap.size l acc∧fD wr (some ⟨gp,0,none⟩) ps∧Sm No w wr∧l.ownBlock≠some gp∧gp < wr.heap.size
theorem Du{ps:List ByteArray}{j:Nat}(h:j < ps.length)(rest:List (List UInt8)):aj (ps.drop j)++rest=ps[j].data.toList::(aj (ps.drop (j+1))++rest):=by
 unfold aj;rw [List.drop_eq_getElem_cons h];rfl
theorem zF{s r:ByteArray}(h:Hid ((⟨(aU s.data.toList).toArray⟩:ByteArray)=r))(hs:s.size≤1000000)(w:World):Calls Tryz.prog 184 #[.string s] w fun e w'=>e=.returned (.string r)∧Sm No w w':=by
 rw [←h.out];exact jC s hs w
theorem eY{s r:ByteArray}(h:Hid ((⟨(aU s.data.toList).toArray⟩:ByteArray)=r))(hs:s.size≤1000000)(w:World):Calls Tryz.prog 215 #[.string s] w fun e w'=>e=.returned (.string r)∧Sm No w w':=by
 rw [←h.out];exact jZ s hs w
theorem vM(w:World)(A:Option Addr)(c:Nat)(vs:List ByteArray)(hg:G0 w)(hA:fD w A vs)(hl:vs.length≤1000000)(hs:∀ s∈vs,s.size≤900000)(ht:(cr vs 0).length≤1000000):
 Calls Tryz.prog 285 #[.slice A vs.length c] w (iG w vs):=by
 have HA:=ns (BT hg (BT hA (BT hs ht)));clear hg hA hs ht;go_in;go_wp2_with fail
 go_loopw [4,11] (fun l i wr=>CU w vs l i wr) (fun _ i _=>vs.length-(intOf i).toNat)
 case atStart=>exact⟨0,[],Nat.zero_le _,rfl,rfl,by simpa using HA.out.2.2.2,World.ownsRow_nil _ _ _ 1,Sm.refl _ _⟩
 case round=>
  obtain⟨k,acc,hk,rfl,hT,hT2,hO,hsm⟩:=hrel;obtain⟨wo,rfl⟩:∃ wo:World,wo=wr:=⟨_,rfl⟩;have HK:=ns (BT hT (BT hT2 (BT hO hsm)));clear hT hT2 hO hsm;by_cases hlt:k < vs.length
  ·obtain⟨bb,off,hAe,hbb,r0⟩:=(HA.out.2.1.no HK.out.2.2.2) k hlt;subst hAe;have s0:=HA.out.2.2.1 _ (List.getElem_mem hlt);have hrest:=uM hlt;obtain⟨s,hsk⟩:=Iu (vs[k]);rw [hsk] at r0 s0 hrest;have HR:=ns hrest;have k1:(0:Int)≤(k:Int):=by omega
   have k2:(k:Int) < (vs.length:Int):=by omega
   clear hsk hrest;go_wp2_with fail;refine(BF s (by omega) wo (HA.out.1.no HK.out.2.2.2)).mono ?_;rintro e w1 ⟨ps,hps,rfl,hSR,hs1,hgp,hpz⟩;have hT1:az (aj vs)=dg acc (aj ps++cr vs (k+1)):=by rw [HK.out.1,HR.out,←hps];rfl
   have hT2:acc.length+(aj ps++cr vs (k+1)).length≤1000000:=by have:=HK.out.2.1;rw [HR.out,←hps] at this;exact this
   have hpl:ps.length≤1000000:=by simp [aj] at hT2;omega
   have HP:=ns (BT hT1 (BT hT2 (BT hSR (BT hs1 (BT hpz (BT (aa HK.out.2.2.1 hs1 (fun _ _ h=>h)) (BT (HK.out.2.2.2.tt hs1) (BT (show u4.ownBlock≠some wo.heap.size from fun e=>by have:=(World.ownsRow.lt HK.out.2.2.1 _ e).2;omega) hgp))))))));clear hT1 hT2 hSR hs1 hpz hps hgp;go_wp2_with fail
   go_loopw [4,18] (fun l i wr'=>E4 w wo.heap.size (az (aj vs)) ps (cr vs (k+1)) l i wr') (fun _ i _=>ps.length-(intOf i).toNat)
   case atStart=>exact⟨0,acc,Nat.zero_le _,rfl,HP.out.1,HP.out.2.1,HP.out.2.2.2.2.2.1,HP.out.2.2.1,HP.out.2.2.2.2.2.2.1,HP.out.2.2.2.2.2.2.2.1,HP.out.2.2.2.2.2.2.2.2⟩
   case round=>
    obtain⟨j,acc2,hj,rfl,hT,hT2,hO,hSR,hsm,hgp⟩:=hrel;have HJ:=ns (BT hT (BT hT2 (BT hO (BT hSR (BT hsm hgp)))));clear hT hT2 hO hSR hsm hgp;by_cases hlt2:j < ps.length
    ·obtain⟨b2,o2,hA2,hb2,r2⟩:=HJ.out.2.2.2.1 j hlt2;injection hA2 with hA2;injection hA2 with hA3 hA4;subst hA3 hA4;have s2:=HP.out.2.2.2.2.1 _ (List.getElem_mem hlt2);have hat:=Du hlt2 (cr vs (k+1));obtain⟨p,hp⟩:∃ s,ps[j]=s:=⟨_,rfl⟩;rw [hp] at r2 s2 hat;rw [Nat.zero_add] at r2;obtain⟨r,hr⟩:=Iu ((⟨(aw p.data.toList).toArray⟩:ByteArray));have hrl:r.data.toList=aw p.data.toList:=by rw [←hr]
     have hrs:r.size≤1000000:=by
      have h1:=fQ p.data.toList;rw [ai,hrl];rw [ai] at s2;omega
     have HR2:=ns hr;have HX:=ns (BT hat hrl);have k3:(0:Int)≤(j:Int):=by omega
     have k4:(j:Int) < (ps.length:Int):=by omega
     clear hp hat hr hrl;go_wp2_with fail;refine(fO HR2 (by omega) _).mono ?_;rintro e w2 ⟨rfl,hs2⟩;have HW:=ns (BT (HJ.out.2.2.2.1.no hs2) (BT (aa HJ.out.2.2.1 hs2 (fun _ _ h=>h)) (BT (HJ.out.2.2.2.2.1.tt hs2) (BT HJ.out.2.2.2.2.2.1 (Nat.lt_of_lt_of_le HJ.out.2.2.2.2.2.2 hs2.size)))));clear hs2;by_cases hn:r.data.toList=[]
     ·have h1:r.toList=[]:=by rw [Go.ByteArray.toList_eq];exact hn
      have h2:r.toList.isEmpty=true:=by rw [h1];rfl
      have hT:az (aj vs)=dg acc2 (aj (ps.drop (j+1))++cr vs (k+1)):=by rw [HJ.out.1,HX.out.1,gy _ _ (by rw [←HX.out.2];exact hn)]
      have hT2:acc2.length+(aj (ps.drop (j+1))++cr vs (k+1)).length≤1000000:=by have:=HJ.out.2.1;rw [HX.out.1,List.length_cons] at this;omega
      have HT:=ns (BT hT hT2);clear hT hT2 hn;go_wp2_with fail;exact⟨⟨j+1,acc2,by omega,by go_num,HT.out.1,HT.out.2,HW.out.2.1,HW.out.1,HW.out.2.2.1,HW.out.2.2.2⟩,by simp [intOf];omega⟩
     ·have h1:¬r.toList=[]:=by rw [Go.ByteArray.toList_eq];exact hn
      have h2:r.toList.isEmpty=false:=by cases hq:r.toList with
       |nil=>exact absurd hq h1
       |cons a l=>rfl
      obtain⟨f,hf⟩:=Iu (bP r.data.toList);have HF:=ns hf;have HN:=ns hn;clear hf hn;go_wp2_with fail;refine(dq HF hrs _).mono ?_;rintro e w3 ⟨rfl,rfl⟩
      cases f
      ·have hT:az (aj vs)=none:=by rw [HJ.out.1,HX.out.1,jw _ _ (by rw [←HX.out.2];exact HN.out) (by rw [←HX.out.2];exact HF.out)]
       have HT:=ns hT;clear hT;go_wp2_with fail;go_ret2;exact Or.inr ⟨HT.out,rfl,HW.out.2.2.1⟩
      ·obtain⟨lw,hlw⟩:∃ x,(⟨(aU r.data.toList).toArray⟩:ByteArray)=x:=⟨_,rfl⟩;have hT:az (aj vs)=dg (acc2++[aU r.data.toList]) (aj (ps.drop (j+1))++cr vs (k+1)):=by
        rw [HJ.out.1,HX.out.1,jx _ _ (by rw [←HX.out.2];exact HN.out) (by rw [←HX.out.2];exact HF.out),HX.out.2]
       have hT2:(acc2++[aU r.data.toList]).length+(aj (ps.drop (j+1))++cr vs (k+1)).length≤1000000:=by have:=HJ.out.2.1;rw [HX.out.1,List.length_cons] at this;rw [List.length_append];simp only [List.length_singleton];omega
       have ha2:acc2.length≤1000000:=by have:=HJ.out.2.1;omega
       have HT:=ns (BT hT hT2);have HLW:=ns hlw;clear hT hT2 hlw;go_wp2_with fail;refine(zF HLW hrs _).mono ?_;rintro e w4 ⟨rfl,hs4⟩;have HW4:=ns (BT (HW.out.1.no hs4) (BT (aa HW.out.2.1 hs4 (fun _ _ h=>h)) (BT (HW.out.2.2.1.tt hs4) (BT HW.out.2.2.2.1 (Nat.lt_of_lt_of_le HW.out.2.2.2.2 hs4.size)))));clear hs4;go_wp2_with (refine aq rfl _ _ 125 9 rfl Tryz.underlying125 _ 1 16 dR rfl (by decide) (by decide) w.heap.size _ u4 _ rfl (World.ownsRow.alloc HW4.out.2.1 _) w4.heap.size #[.string lw] rfl (Bk.new w4 _ _) rfl (by simp [Value.oneCell']) ha2 (by have:=HW4.out.2.2.1.size;simp;omega) ?_;intro v' w5 hown5 hs5 hv5);have hO5:bo w5 w.heap.size v' (acc2++[aU r.data.toList]):=by
        refine bo.push ?_;rw [aX,HLW.out];exact hown5
       have hS5:Sm No w w5:=(HW4.out.2.2.1.alloc (.cells #[.string lw] 9)).trans hs5 (fun b hb e=>by
        have:=(World.ownsRow.lt HW4.out.2.1 b e).1;omega)
       have hR5:fD w5 (some ⟨wo.heap.size,0,none⟩) ps:=(HW4.out.1.no ((Sm.refl No w4).alloc (.cells #[.string lw] 9))).sm hs5 (fun a ha e=>by
        injection ha with ha;rw [←ha] at e;exact HW4.out.2.2.2.1 e)
       have hN5:v'.ownBlock≠some wo.heap.size:=fun e=>by
        rcases hv5 with g|g
        ·exact HW4.out.2.2.2.1 (g ▸ e)
        ·rw [g] at e;injection e with e;have:=HW4.out.2.2.2.2;simp at e;omega
       have hG5:wo.heap.size < w5.heap.size:=by have:=HW4.out.2.2.2.2;have:=hs5.size;simp at this;omega
       have H5:=ns (BT hO5 (BT hR5 (BT hS5 (BT hN5 hG5))));clear hO5 hS5 hown5 hs5 hv5 hR5 hN5 hG5;go_wp2_with fail;exact⟨⟨j+1,acc2++[aU r.data.toList],by omega,by go_num,HT.out.1,HT.out.2,H5.out.1,H5.out.2.1,H5.out.2.2.1,H5.out.2.2.2⟩,by simp [intOf];omega⟩
    ·have hT:az (aj vs)=dg acc2 (cr vs (k+1)):=by
      have:=HJ.out.1;rw [List.drop_eq_nil_of_le (by omega)] at this;exact this
     have hT2:acc2.length+(cr vs (k+1)).length≤1000000:=by
      have:=HJ.out.2.1;rw [List.drop_eq_nil_of_le (by omega)] at this;exact this
     have HT:=ns (BT hT hT2);clear hT hT2;go_wp2_with fail;exact⟨⟨k+1,acc2,by omega,by go_num,HT.out.1,HT.out.2,HJ.out.2.2.1,HJ.out.2.2.2.2.1⟩,by simp [intOf];omega⟩
  ·have hend:az (aj vs)=some acc:=by rw [HK.out.1,pP hlt];rfl
   have HE:=ns hend;clear hend;go_wp2_with fail;go_ret2;exact Or.inl ⟨acc,_,HE.out,rfl,HK.out.2.2.1,HK.out.2.2.2⟩
def tk(w:World)(T:Option (List (List UInt8)))(s:ByteArray)(rest:List (List UInt8))(l f i:Value)(wr:World):Prop:=
 ∃ (k fr:Nat) (acc:List (List UInt8)),k≤s.size∧fr≤k∧i=.int .i64 k∧f=.int .i64 fr∧T=dg acc (bZ ((s.data.toList.take k).drop fr) (s.data.toList.drop k)++rest)∧
   acc.length+(bZ ((s.data.toList.take k).drop fr) (s.data.toList.drop k)++rest).length≤1000000∧bo wr w.heap.size l acc∧Sm No w wr
theorem xi{s:List UInt8}{k fr:Nat}(h:k < s.length)(_:fr≤k)(hc:s[k]=44):bZ ((s.take k).drop fr) (s.drop k)=(s.take k).drop fr::bZ ((s.take (k+1)).drop (k+1)) (s.drop (k+1)):=by
 have e:(s.take (k+1)).drop (k+1)=[]:=List.drop_eq_nil_of_le (by simp;omega);rw [List.drop_eq_getElem_cons h,bZ,if_pos hc,e]
theorem vk{s:List UInt8}{k fr:Nat}(h:k < s.length)(hf:fr≤k)(hc:s[k]≠44):bZ ((s.take k).drop fr) (s.drop k)=bZ ((s.take (k+1)).drop fr) (s.drop (k+1)):=by
 rw [List.drop_eq_getElem_cons h,bZ,if_neg hc,List.take_succ_eq_append_getElem h,List.drop_append_of_le_length (by simp;omega)]
theorem gl(w:World)(A:Option Addr)(c:Nat)(vs:List ByteArray)(hA:fD w A vs)(hl:vs.length≤1000000)(hs:∀ s∈vs,s.size≤900000)(ht:(cr vs 0).length≤1000000):
 Calls Tryz.prog 211 #[.slice A vs.length c] w (iG w vs):=by
 have HA:=ns (BT hA (BT hs ht));clear hA hs ht;go_in;go_wp2_with fail
 go_loopw [4,5] (fun l i wr=>CU w vs l i wr) (fun _ i _=>vs.length-(intOf i).toNat)
 case atStart=>exact⟨0,[],Nat.zero_le _,rfl,rfl,by simpa using HA.out.2.2,World.ownsRow_nil _ _ _ 1,Sm.refl _ _⟩
 case round=>
  obtain⟨k,acc,hk,rfl,hT,hT2,hO,hsm⟩:=hrel;obtain⟨wo,rfl⟩:∃ wo:World,wo=wr:=⟨_,rfl⟩;have HK:=ns (BT hT (BT hT2 (BT hO hsm)));clear hT hT2 hO hsm;by_cases hlt:k < vs.length
  ·obtain⟨bb,off,hAe,hbb,r0⟩:=(HA.out.1.no HK.out.2.2.2) k hlt;subst hAe;have s0:=HA.out.2.1 _ (List.getElem_mem hlt);have hrest:=uM hlt;obtain⟨s,hsk⟩:=Iu (vs[k]);rw [hsk] at r0 s0 hrest;have HR:=ns hrest;have k1:(0:Int)≤(k:Int):=by omega
   have k2:(k:Int) < (vs.length:Int):=by omega
   have s1:s.size+1≤1000000:=by omega
   clear hsk hrest;go_wp2_with fail;obtain⟨s',hs'⟩:∃ x,s++(⟨#[44]⟩:ByteArray)=x:=⟨_,rfl⟩;have hsd:s'.data.toList=s.data.toList++[44]:=by rw [←hs'];simp
   have hsz:s'.size=s.size+1:=by rw [ai,hsd];simp
   have hsz2:s'.size≤1000000:=by omega
   have hRel:tk w (az (aj vs)) s' (cr vs (k+1)) u4 (.int .i64 0) (.int .i64 0) wo:=
    ⟨0,0,acc,Nat.zero_le _,Nat.le_refl _,rfl,rfl,by rw [HK.out.1,HR.out,List.take_zero,List.drop_zero,List.drop_zero,hsd];rfl,by have:=HK.out.2.1;rw [HR.out] at this;rw [List.take_zero,List.drop_zero,List.drop_zero,hsd];exact this,HK.out.2.2.1,HK.out.2.2.2⟩
   have HRel:=ns hRel;rw [hs'];clear hs' hsd hsz hRel
   go_loopw [4,7,8] (fun l f i wr'=>tk w (az (aj vs)) s' (cr vs (k+1)) l f i wr') (fun _ _ i _=>s'.size-(intOf i).toNat)
   case atStart=>exact HRel.out
   case round=>
    obtain⟨j,fr,acc2,hj,hfr,rfl,rfl,hT,hT2,hO,hsm⟩:=hrel;have HJ:=ns (BT hT (BT hT2 (BT hO hsm)));clear hT hT2 hO hsm;by_cases hlt2:j < s'.size
    ·have hlt3:j < s'.data.toList.length:=by rw [←ai];exact hlt2
     have hgs:s'.data.toList[j]=s'[j]:=rfl;by_cases hq:s'[j]=44
     ·have hq2:((s'[j].toNat:Int) != 44)=false:=by simp [hq]
      obtain⟨p,hp⟩:∃ x,s'.extract fr j=x:=⟨_,rfl⟩;have hpd:p.data.toList=(s'.data.toList.take j).drop fr:=by rw [←hp,Lib.extract_data,List.drop_take]
      have hps:p.size≤1000000:=by rw [ai,hpd];simp;omega
      obtain⟨r,hr⟩:=Iu ((⟨(aw p.data.toList).toArray⟩:ByteArray));have hrl:r.data.toList=aw p.data.toList:=by rw [←hr]
      have hrs:r.size≤1000000:=by
       have h1:=fQ p.data.toList;rw [ai,hrl];rw [ai] at hps;omega
      have hseg:bZ ((s'.data.toList.take j).drop fr) (s'.data.toList.drop j)=p.data.toList::bZ ((s'.data.toList.take (j+1)).drop (j+1)) (s'.data.toList.drop (j+1)):=by rw [hpd];exact xi hlt3 hfr (by rw [hgs];exact hq)
      have HR2:=ns hr;have HX:=ns (BT hseg hrl);have k3:(0:Int)≤(fr:Int):=by omega
      have k4:(fr:Int)≤(j:Int):=by omega
      have k5:(j:Int)≤(s'.size:Int):=by omega
      clear hr hrl hseg hq hgs hpd;go_wp2_with fail;refine(lT HR2 hps _).mono ?_;rintro e w2 ⟨rfl,rfl⟩;by_cases hn:r.data.toList=[]
      ·have h1:r.toList=[]:=by rw [Go.ByteArray.toList_eq];exact hn
       have h2:r.toList.isEmpty=true:=by rw [h1];rfl
       have hT:az (aj vs)=dg acc2 (bZ ((s'.data.toList.take (j+1)).drop (j+1)) (s'.data.toList.drop (j+1))++cr vs (k+1)):=by rw [HJ.out.1,HX.out.1,List.cons_append,gy _ _ (by rw [←HX.out.2];exact hn)]
       have hT2:acc2.length+(bZ ((s'.data.toList.take (j+1)).drop (j+1)) (s'.data.toList.drop (j+1))++cr vs (k+1)).length≤1000000:=by have:=HJ.out.2.1;rw [HX.out.1,List.cons_append,List.length_cons] at this;omega
       have HT:=ns (BT hT hT2);clear hT hT2 hn;go_wp2_with fail;exact⟨⟨j+1,j+1,acc2,by omega,by omega,by go_num,by go_num,HT.out.1,HT.out.2,HJ.out.2.2.1,HJ.out.2.2.2⟩,by simp [intOf];omega⟩
      ·have h1:¬r.toList=[]:=by rw [Go.ByteArray.toList_eq];exact hn
       have h2:r.toList.isEmpty=false:=by cases hq:r.toList with
        |nil=>exact absurd hq h1
        |cons a l=>rfl
       obtain⟨f,hf⟩:=Iu (bP r.data.toList);have HF:=ns hf;have HN:=ns hn;clear hf hn;go_wp2_with fail;refine(ez HF hrs _).mono ?_;rintro e w3 ⟨rfl,rfl⟩
       cases f
       ·have hT:az (aj vs)=none:=by rw [HJ.out.1,HX.out.1,List.cons_append,jw _ _ (by rw [←HX.out.2];exact HN.out) (by rw [←HX.out.2];exact HF.out)]
        have HT:=ns hT;clear hT;go_wp2_with fail;go_ret2;exact Or.inr ⟨HT.out,rfl,HJ.out.2.2.2⟩
       ·obtain⟨lw,hlw⟩:∃ x,(⟨(aU r.data.toList).toArray⟩:ByteArray)=x:=⟨_,rfl⟩;have hT:az (aj vs)=dg (acc2++[aU r.data.toList]) (bZ ((s'.data.toList.take (j+1)).drop (j+1)) (s'.data.toList.drop (j+1))++cr vs (k+1)):=by
         rw [HJ.out.1,HX.out.1,List.cons_append,jx _ _ (by rw [←HX.out.2];exact HN.out) (by rw [←HX.out.2];exact HF.out),HX.out.2]
        have hT2:(acc2++[aU r.data.toList]).length+(bZ ((s'.data.toList.take (j+1)).drop (j+1)) (s'.data.toList.drop (j+1))++cr vs (k+1)).length≤1000000:=by have:=HJ.out.2.1;rw [HX.out.1,List.cons_append,List.length_cons] at this;rw [List.length_append];simp only [List.length_singleton];omega
        have ha2:acc2.length≤1000000:=by have:=HJ.out.2.1;omega
        have HT:=ns (BT hT hT2);have HLW:=ns hlw;clear hT hT2 hlw;go_wp2_with fail;refine(eY HLW hrs _).mono ?_;rintro e w4 ⟨rfl,hs4⟩;have HW4:=ns (BT (aa HJ.out.2.2.1 hs4 (fun _ _ h=>h)) (HJ.out.2.2.2.tt hs4));clear hs4;go_wp2_with (refine aq rfl _ _ 125 9 rfl Tryz.underlying125 _ 1 16 dR rfl (by decide) (by decide) w.heap.size _ u4 _ rfl (World.ownsRow.alloc HW4.out.1 _) w4.heap.size #[.string lw] rfl (Bk.new w4 _ _) rfl (by simp [Value.oneCell']) ha2 (by have:=HW4.out.2.size;simp;omega) ?_;intro v' w5 hown5 hs5 hv5);have hO5:bo w5 w.heap.size v' (acc2++[aU r.data.toList]):=by
         refine bo.push ?_;rw [aX,HLW.out];exact hown5
        have hS5:Sm No w w5:=(HW4.out.2.alloc (.cells #[.string lw] 9)).trans hs5 (fun b hb e=>by
         have:=(World.ownsRow.lt HW4.out.1 b e).1;omega)
        have H5:=ns (BT hO5 hS5);clear hO5 hS5 hown5 hs5 hv5;go_wp2_with fail;exact⟨⟨j+1,j+1,acc2++[aU r.data.toList],by omega,by omega,by go_num,by go_num,HT.out.1,HT.out.2,H5.out.1,H5.out.2⟩,by simp [intOf];omega⟩
     ·have hq2:((s'[j].toNat:Int) != 44)=true:=by
       simp;intro h;exact hq (UInt8.toNat_inj.mp (by have:(44:UInt8).toNat=44:=rfl;omega))
      have hseg:=vk (fr:=fr) hlt3 hfr (by rw [hgs];exact hq);have hT:=HJ.out.1;have hT2:=HJ.out.2.1;rw [hseg] at hT hT2;have HT:=ns (BT hT hT2);clear hseg hT hT2 hq hgs;go_wp2_with fail;exact⟨⟨j+1,fr,acc2,by omega,by omega,by go_num,rfl,HT.out.1,HT.out.2,HJ.out.2.2.1,HJ.out.2.2.2⟩,by simp [intOf];omega⟩
    ·have hj2:s'.data.toList.drop j=[]:=List.drop_eq_nil_of_le (by rw [←ai];omega);have hT:=HJ.out.1;have hT2:=HJ.out.2.1;rw [hj2] at hT hT2;have HT:=ns (BT hT hT2);clear hT hT2 hj2;go_wp2_with fail;exact⟨⟨k+1,acc2,by omega,by go_num,HT.out.1,HT.out.2,HJ.out.2.2.1,HJ.out.2.2.2⟩,by simp [intOf];omega⟩
  ·have hend:az (aj vs)=some acc:=by rw [HK.out.1,pP hlt];rfl
   have HE:=ns hend;clear hend;go_wp2_with fail;go_ret2;exact Or.inl ⟨acc,_,HE.out,rfl,HK.out.2.2.1,HK.out.2.2.2⟩
theorem bT{p:UInt8→Bool}{l:List UInt8}{k:Nat}(hk:k≤l.length)(h1:∀ c∈l.take k,p c=true)(h2:∀ h:k < l.length,p l[k]=false):l.takeWhile p=l.take k:=by
 induction l generalizing k with
 |nil=>simp at hk;subst hk;rfl
 |cons c l ih=>
  cases k with
  |zero=>
   have:=h2 (by simp);simp at this;simp [this]
  |succ k=>
   have hc:p c=true:=h1 c (by simp);rw [List.takeWhile_cons,if_pos hc,List.take_succ_cons];congr 1;refine ih (by simpa using hk) (fun d hd=>h1 d (by simp [hd])) (fun h=> ?_);have:=h2 (by simpa using h);simpa using this
theorem on{p:UInt8→Bool}{l:List UInt8}{k:Nat}(hk:k≤l.length)(h1:∀ c∈l.take k,p c=true)(h2:∀ h:k < l.length,p l[k]=false):l.dropWhile p=l.drop k:=by
 have h:=bT hk h1 h2;have e:=List.takeWhile_append_dropWhile (p:=p) (l:=l);rw [h] at e;have e2:=List.take_append_drop k l;rw [←e2] at e
 conv at e=>lhs;rw [e2]
 exact List.append_cancel_left e
def jf(p:UInt8→Bool)(s:ByteArray)(i:Value):Prop:=∃ k:Nat,k≤s.size∧i=.int .i64 k∧∀ c∈s.data.toList.take k,p c=true
theorem di{p:UInt8→Bool}{s:ByteArray}{k:Nat}(h:∀ c∈s.data.toList.take k,p c=true)(hk:k < s.size)(hp:p s[k]=true):∀ c∈s.data.toList.take (k+1),p c=true:=by
 intro c hc;rw [fc s k hk,List.mem_append] at hc;rcases hc with hc|hc
 ·exact h c hc
 ·obtain rfl:=List.mem_singleton.1 hc;exact hp
theorem Fd(s:ByteArray)(k:Nat)(h:k < s.size):bP (s.extract k (k+1)).data.toList=eh s[k]:=by
 have e:k+1-k=1:=by omega
 rw [Lib.extract_data,←List.drop_take,fc s k h,List.drop_append_of_le_length (by simp;omega),List.drop_eq_nil_of_le (by simp;omega)];simp [bP]
theorem pQ(s:ByteArray)(hs:s.size≤1000000)(w:World):
 Calls Tryz.prog 303 #[.string s] w fun e w'=>∃ k:Nat,k≤s.size∧s.data.toList.take k=cy s.data.toList∧e=.returned (.string (s.extract 0 k))∧w=w':=by
 go_in;go_wp2_with fail
 go_loop [3] (fun i=>jf eh s i) (fun i=>s.size-(intOf i).toNat)
 case atStart=>exact⟨0,Nat.zero_le _,rfl,by simp⟩
 case round=>
  obtain⟨k,hk,rfl,hall⟩:=hrel;have HA:=ns hall;clear hall;have hkl:k≤s.data.toList.length:=by rw [←ai];exact hk
  have k0:(0:Int)≤(k:Int):=by omega
  have k0':(k:Int)≤(s.size:Int):=by omega
  by_cases hlt:k < s.size
  ·obtain⟨f,hf⟩:=Iu (eh s[k]);have ho:=Fd s k hlt;rw [hf] at ho;have HO:=ns ho;have HF:=ns hf;have hes:(s.extract k (k+1)).size≤1000000:=by simp;omega
   have k1:(k:Int) < (s.size:Int):=by omega
   have k2:(k:Int)+1≤(s.size:Int):=by omega
   clear hf ho;go_wp2_with fail;refine(dq HO hes _).mono ?_;rintro e w1 ⟨rfl,rfl⟩
   cases f
   ·have h:=bT (p:=eh) hkl HA.out (fun h=>HF.out);have HW:=ns h;clear h;go_wp2_with fail;go_ret;exact⟨k,hk,HW.out.symm,rfl,rfl⟩
   ·have HN:=ns (di HA.out hlt HF.out);go_wp2_with fail;exact⟨⟨k+1,by omega,by go_num,HN.out⟩,by simp [intOf];omega⟩
  ·have h:=bT (p:=eh) hkl HA.out (fun h=>absurd h (by rw [←ai];exact hlt));have HW:=ns h;clear h;go_wp2_with fail;go_ret;exact⟨k,hk,HW.out.symm,rfl,rfl⟩
theorem pM{c:UInt8}{r:Bool}(h:Hid (eh c=r))(w:World):Calls Tryz.prog 175 #[.int .u8 c.toNat] w fun e w'=>e=.returned (.bool r)∧w=w':=by
 rw [←h.out];exact gG c w
theorem nQ(s:ByteArray)(hs:s.size≤1000000)(w:World):
 Calls Tryz.prog 274 #[.string s] w fun e w'=>∃ k:Nat,k≤s.size∧s.data.toList.take k=cy s.data.toList∧e=.returned (.int .i64 k)∧w=w':=by
 go_in;go_wp2_with fail
 go_loop [3] (fun i=>jf eh s i) (fun i=>s.size-(intOf i).toNat)
 case atStart=>exact⟨0,Nat.zero_le _,rfl,by simp⟩
 case round=>
  obtain⟨k,hk,rfl,hall⟩:=hrel;have HA:=ns hall;clear hall;have hkl:k≤s.data.toList.length:=by rw [←ai];exact hk
  by_cases hlt:k < s.size
  ·obtain⟨f,hf⟩:=Iu (eh s[k]);have HF:=ns hf;clear hf;go_wp2_with fail;refine(pM HF _).mono ?_;rintro e w1 ⟨rfl,rfl⟩
   cases f
   ·have h:=bT (p:=eh) hkl HA.out (fun h=>HF.out);have HW:=ns h;clear h;go_wp2_with fail;go_ret;exact⟨k,hk,HW.out.symm,rfl,rfl⟩
   ·have HN:=ns (di HA.out hlt HF.out);go_wp2_with fail;exact⟨⟨k+1,by omega,by go_num,HN.out⟩,by simp [intOf];omega⟩
  ·have h:=bT (p:=eh) hkl HA.out (fun h=>absurd h (by rw [←ai];exact hlt));have HW:=ns h;clear h;go_wp2_with fail;go_ret;exact⟨k,hk,HW.out.symm,rfl,rfl⟩
theorem mv(s:ByteArray)(hs:s.size≤1000000)(w:World):
 Calls Tryz.prog 273 #[.string s] w fun e w'=>∃ k:Nat,k≤s.size∧s.data.toList.drop k=aO s.data.toList∧e=.returned (.int .i64 k)∧w=w':=by
 go_in;go_wp2_with fail
 go_loop [3] (fun i=>jf ia s i) (fun i=>s.size-(intOf i).toNat)
 case atStart=>exact⟨0,Nat.zero_le _,rfl,by simp⟩
 case round=>
  obtain⟨k,hk,rfl,hall⟩:=hrel;have HA:=ns hall;clear hall;have hkl:k≤s.data.toList.length:=by rw [←ai];exact hk
  by_cases hlt:k < s.size
  ·obtain⟨f,hf⟩:=Iu (ia s[k]);have hb:=kw s[k]
   cases f
   ·have h9:((s[k].toNat:Int)==9)=false:=by
     simp;intro e;rw [hb.2 (Or.inl (by omega))] at hf;cases hf
    have h32:((s[k].toNat:Int)==32)=false:=by
     simp;intro e;rw [hb.2 (Or.inr (by omega))] at hf;cases hf
    have h:=on (p:=ia) hkl HA.out (fun h=>hf);have HW:=ns h;clear h hf hb;go_wp2_with fail;go_ret;exact⟨k,hk,HW.out.symm,rfl,rfl⟩
   ·have HN:=ns (di HA.out hlt hf);have hc:=hb.1 hf;clear hf hb;rcases hc with hc|hc
    ·have h9:((s[k].toNat:Int)==9)=true:=by rw [hc];rfl
     clear hc;go_wp2_with fail;exact⟨⟨k+1,by omega,by go_num,HN.out⟩,by simp [intOf];omega⟩
    ·have h9:((s[k].toNat:Int)==9)=false:=by rw [hc];rfl
     have h32:((s[k].toNat:Int)==32)=true:=by rw [hc];rfl
     clear hc;go_wp2_with fail;exact⟨⟨k+1,by omega,by go_num,HN.out⟩,by simp [intOf];omega⟩
  ·have h:=on (p:=ia) hkl HA.out (fun h=>absurd h (by rw [←ai];exact hlt));have HW:=ns h;clear h;go_wp2_with fail;go_ret;exact⟨k,hk,HW.out.symm,rfl,rfl⟩
theorem rU(s:ByteArray)(w:World):Calls Tryz.prog 298 #[.string s,.string ⟨#[9,32]⟩] w fun e w'=>e=.returned (.string ⟨(aO s.data.toList).toArray⟩)∧Sm No w w':=by
 have h:=Any.strings_TrimLeft_laid Tryz.lays161 (by kernel_rfl) s ⟨#[9,32]⟩ w (by decide) (ascii_of_all (by decide));have e:Lib.trimLeftS s.data.toList (⟨#[9,32]⟩:ByteArray).data.toList=aO s.data.toList:=by
  unfold Lib.trimLeftS aO;congr 1
  funext c
  have:=cW (fun c=>([9,32]:List UInt8).contains c==ia c) (by decide+kernel) c;simpa using this
 rw [e] at h;exact h.mono fun _ _ ⟨a,b⟩=>⟨a,Sm.of_below b No⟩
def AE(s:ByteArray)(w:World)(e:Ending)(w':World):Prop:=
 Sm No w w'∧((bK s.data.toList=none∧∃ a b r,e=.returned (.tuple #[.agg #[.string a,.string b],.string r,.bool false]))∨
  (∃ a b r:ByteArray,bK s.data.toList=some ((a.data.toList,b.data.toList),r.data.toList)∧e=.returned (.tuple #[.agg #[.string a,.string b],.string r,.bool true])))
theorem dC(s:ByteArray):s.data.toList=[]↔s.size=0:=by
 rw [ai];exact⟨fun h=>by rw [h];rfl,fun h=>List.eq_nil_of_length_eq_zero h⟩
theorem ik{s:ByteArray}(h:s.size=0):s.toList=[]∧s.toList.isEmpty=true:=by
 have h1:s.toList=[]:=by rw [Go.ByteArray.toList_eq];exact(dC s).2 h
 exact⟨h1,by rw [h1];rfl⟩
theorem fM{s:ByteArray}(h:¬s.size=0):¬s.toList=[]∧s.toList.isEmpty=false:=by
 have h1:¬s.toList=[]:=by rw [Go.ByteArray.toList_eq];exact fun e=>h ((dC s).1 e)
 exact⟨h1,by cases hq:s.toList with
  |nil=>exact absurd hq h1
  |cons a l=>rfl⟩
theorem nW{s:ByteArray}{R:List UInt8 × Nat}(h:Hid (be s.data.toList=R))(hs:s.size≤1000000)(w:World):Calls Tryz.prog 304 #[.string s] w fun e w'=>e=.returned (.tuple #[.string ⟨R.1.toArray⟩,.int .i64 (R.2:Int)])∧Sm No w w':=by
 rw [←h.out];exact xE s hs w
theorem lC{s r:ByteArray}(h:Hid ((⟨(aO s.data.toList).toArray⟩:ByteArray)=r))(w:World):Calls Tryz.prog 298 #[.string s,.string ⟨#[9,32]⟩] w fun e w'=>e=.returned (.string r)∧Sm No w w':=by
 rw [←h.out];exact rU s w
theorem qw{c:UInt8}{r:List UInt8}(h:c=59):bK (c::r)=if cy (aO r)=[] then none else ii (cy (aO r)) ((aO r).drop (cy (aO r)).length):=by
 rw [bK,if_pos h]
theorem fN(l:List UInt8):(aO l).length≤l.length:=(List.dropWhile_sublist ia (l:=l)).length_le
theorem yH(s:ByteArray)(hs:s.size≤1000000)(w:World):Calls Tryz.prog 299 #[.string s] w (AE s w):=by
 by_cases h0:s.size=0
 ·have hn:=(dC s).2 h0;have hp:bK s.data.toList=none:=by rw [hn];rfl
  have HP:=ns hp;obtain⟨h1,h2⟩:=ik h0;clear hn hp;go_in;go_wp2_with fail;refine bodyPost_ret (v:=.tuple #[.agg #[.string ⟨#[]⟩,.string ⟨#[]⟩],.string s,.bool false]) (by simp [results,Tryz.results299,go_sem]) rfl ⟨?_,Or.inl ⟨HP.out,_,_,_,rfl⟩⟩;exact(Sm.refl No w).alloc _
 ·have hl:=bL s 0 (by omega);rw [List.drop_zero] at hl;obtain⟨h1,h2⟩:=fM h0;by_cases hq:s[0]=59
  ·have hpe:=qw (r:=s.data.toList.drop 1) hq;rw [←hl] at hpe;have hq1:((s[0].toNat:Int) != 59)=false:=by simp [hq]
   have hz:0 < s.size:=by omega
   have hz1:(1:Int)≤(s.size:Int):=by omega
   obtain⟨r,hr⟩:=Iu ((⟨(aO (s.extract 1 s.size).data.toList).toArray⟩:ByteArray));have hrd:r.data.toList=aO (s.data.toList.drop 1):=by rw [←hr];show aO (s.extract 1 s.size).data.toList=_;rw [Lib.extract_to_end]
   have hrs:r.size≤1000000:=by
    rw [ai,hrd];have:=fN (s.data.toList.drop 1);rw [List.length_drop,←ai] at this;omega
   rw [←hrd] at hpe;have HPE:=ns hpe;have HR:=ns hr;have hb0:=Bk.new w 328 #[.string ⟨#[]⟩,.string ⟨#[]⟩];have hs0:=(Sm.refl No w).alloc (.cells #[.string ⟨#[]⟩,.string ⟨#[]⟩] 328);have HB:=ns (BT hb0 hs0);clear hpe hl hq hr hrd hb0 hs0;go_in;go_wp2_with fail;refine(lC HR _).mono ?_;rintro e w1 ⟨rfl,hs1⟩;have hb1:=HB.out.1.sm hs1 (fun h=>h);have hs2:=HB.out.2.tt hs1;have c0:=hb1.at 0 (v:=.string ⟨#[]⟩) rfl;have c1:=hb1.at 1 (v:=.string ⟨#[]⟩) rfl;have z0:=hb1.fz 0;have z1:=hb1.fz 1;have HB1:=ns hs2;have HBK:=ns hb1;clear hs1 hb1 hs2;go_wp2_with fail;refine(pQ r hrs _).mono ?_;rintro e w2 ⟨k,hk,hkt,rfl,rfl⟩;obtain⟨nm,hnm⟩:∃ x,r.extract 0 k=x:=⟨_,rfl⟩;have hnd:nm.data.toList=cy r.data.toList:=by rw [←hnm,Lib.extract_data,List.drop_zero,←hkt];simp
   have hns:nm.size=k:=by rw [ai,hnd,←hkt];simp;omega
   rw [hnm];have HN:=ns (BT hnd hns);have hnk:nm.size≤r.size:=by omega
   have hnk2:(nm.size:Int)≤(r.size:Int):=by omega
   clear hnm hnd hns hkt;by_cases hk0:nm.size=0
   ·have hp:bK s.data.toList=none:=by rw [HPE.out,if_pos (by rw [←HN.out.1];exact(dC nm).2 hk0)]
    have HP:=ns hp;obtain⟨g1,g2⟩:=ik hk0;clear hp;go_wp2_with fail;refine bodyPost_ret (v:=.tuple #[.agg #[.string nm,.string ⟨#[]⟩],.string r,.bool false]) (by simp [results,Tryz.results299,go_sem,c0,c1]) rfl ⟨?_,Or.inl ⟨HP.out,_,_,_,rfl⟩⟩;exact((HB1.out.setN (Nat.le_refl _) _ _).setN (Nat.le_refl _) _ _).setN (Nat.le_refl _) _ _
   ·obtain⟨g1,g2⟩:=fM hk0;obtain⟨t,ht⟩:∃ x,r.extract nm.size r.size=x:=⟨_,rfl⟩;have htd:t.data.toList=r.data.toList.drop (cy r.data.toList).length:=by rw [←ht,Lib.extract_to_end,←HN.out.1,←ai]
    have hts:t.size≤1000000:=by rw [←ht];simp;omega
    have hpe:=HPE.out;rw [if_neg (by rw [←HN.out.1];exact fun e=>hk0 ((dC nm).1 e)),←htd,←HN.out.1] at hpe;have HPE2:=ns hpe;clear hpe htd;by_cases ht0:t.size=0
    ·have hp:bK s.data.toList=some ((nm.data.toList,(⟨#[]⟩:ByteArray).data.toList),t.data.toList):=by rw [HPE2.out,(dC t).2 ht0];rfl
     have HP:=ns hp;obtain⟨g3,g4⟩:=ik ht0;clear hp;go_wp2_with fail;refine bodyPost_ret (v:=.tuple #[.agg #[.string nm,.string ⟨#[]⟩],.string t,.bool true]) (by simp [results,Tryz.results299,go_sem,c0,c1]) rfl ⟨?_,Or.inr ⟨nm,⟨#[]⟩,t,HP.out,rfl⟩⟩;exact((HB1.out.setN (Nat.le_refl _) _ _).setN (Nat.le_refl _) _ _).setN (Nat.le_refl _) _ _
    ·obtain⟨g3,g4⟩:=fM ht0;have htl:=bL t 0 (by omega);rw [List.drop_zero] at htl;by_cases hq2:t[0]=61
     ·have hpe:=HPE2.out;rw [htl,ii,if_pos hq2] at hpe;obtain⟨u,hu⟩:∃ x,t.extract 1 t.size=x:=⟨_,rfl⟩;have hud:u.data.toList=t.data.toList.drop 1:=by rw [←hu,Lib.extract_to_end]
      have hus:u.size≤1000000:=by rw [←hu];simp;omega
      have hq3:((t[0].toNat:Int) != 61)=false:=by simp [hq2]
      have ht1:(1:Int)≤(t.size:Int):=by omega
      rw [←hud] at hpe;obtain⟨⟨Q,n⟩,hQ⟩:∃ R,be u.data.toList=R:=⟨_,rfl⟩;rw [hQ] at hpe;have HPE3:=ns hpe;have HQ:=ns hQ;have hnu:n≤u.size:=by
       by_cases hn:n=0
       ·omega
       ·rw [ai];exact(nP hQ hn).1
      clear hpe hud hQ htl hq2;have hbS:Bk (w1.setCell ⟨w.heap.size,0,none⟩ (.string nm)) w.heap.size 328 #[.string nm,.string ⟨#[]⟩]:=(HBK.out.set 0 _).eq (by rfl);have HS:=ns (BT hbS (HB1.out.setN (Nat.le_refl _) 0 (.string nm)));clear hbS;by_cases hn:n=0
      ·subst hn;go_wp2_with fail;refine(nW HQ hus _).mono ?_;rintro e w3 ⟨rfl,hs3⟩;have H3:=ns (BT (HS.out.1.sm hs3 (fun h=>h)) (HS.out.2.tt hs3));have d0:=H3.out.1.at 0 (v:=.string nm) rfl;have d1:=H3.out.1.at 1 (v:=.string ⟨#[]⟩) rfl;have y0:=H3.out.1.fz 0;have y1:=H3.out.1.fz 1;clear hs3 c0 c1 z0 z1;go_wp2_with fail;refine(pQ u hus _).mono ?_;rintro e w4 ⟨k2,hk2,hkt2,rfl,rfl⟩;obtain⟨v,hv⟩:∃ x,u.extract 0 k2=x:=⟨_,rfl⟩;have hvd:v.data.toList=cy u.data.toList:=by rw [←hv,Lib.extract_data,List.drop_zero,←hkt2];simp
       have hvs:v.size=k2:=by rw [ai,hvd,←hkt2];simp;omega
       rw [hv];have hbV:Bk (w3.setCell ⟨w.heap.size,1,none⟩ (.string v)) w.heap.size 328 #[.string nm,.string v]:=(H3.out.1.set 1 _).eq (by rfl);have hsV:=H3.out.2.setN (Nat.le_refl _) 1 (.string v);have HV:=ns (BT hvd hvs);have hvu:v.size≤u.size:=by omega
       have hvu2:(v.size:Int)≤(u.size:Int):=by omega
       clear hv hvd hvs hkt2;go_wp2_with fail;generalize w3.setCell ⟨w.heap.size,1,none⟩ (.string v)=w5 at hbV hsV ⊢;have f0:=hbV.at 0 (v:=.string nm) rfl;have f1:=hbV.at 1 (v:=.string v) rfl;have x0:=hbV.fz 0;have x1:=hbV.fz 1;clear d0 d1 y0 y1
       go_region
       all_goals
        go_wp2_with fail;have hbF:Bk ((w5.setCell ⟨w.heap.size,0,none⟩ (.string nm)).setCell ⟨w.heap.size,1,none⟩ (.string v)).drew w.heap.size 328 #[.string nm,.string v]:=(((hbV.set 0 _).set 1 _).drew).eq (by rfl);have e0:=hbF.at 0 (v:=.string nm) rfl;have e1:=hbF.at 1 (v:=.string v) rfl;have hsF:=((hsV.setN (Nat.le_refl _) 0 (.string nm)).setN (Nat.le_refl _) 1 (.string v)).drew;by_cases hv0:v.size=0
        ·obtain⟨_,q2⟩:=ik hv0;have hp:bK s.data.toList=none:=by rw [HPE3.out,if_pos trivial,if_pos (by rw [←HV.out.1];exact(dC v).2 hv0)]
         rw [q2];exact bodyPost_ret (v:=.tuple #[.agg #[.string nm,.string v],.string (u.extract v.size u.size),.bool false]) (by simp [results,Tryz.results299,go_sem,f0,f1]) rfl ⟨hsF,Or.inl ⟨hp,_,_,_,rfl⟩⟩
        ·obtain⟨_,q2⟩:=fM hv0;have hp:bK s.data.toList=some ((nm.data.toList,v.data.toList),(u.extract v.size u.size).data.toList):=by
          rw [HPE3.out,if_pos trivial,if_neg (by rw [←HV.out.1];exact fun e=>hv0 ((dC v).1 e)),Lib.extract_to_end,←HV.out.1,←ai]
         rw [q2];exact bodyPost_ret (v:=.tuple #[.agg #[.string nm,.string v],.string (u.extract v.size u.size),.bool true]) (by simp [results,Tryz.results299,go_sem,f0,f1]) rfl ⟨hsF,Or.inr ⟨nm,v,_,hp,rfl⟩⟩
      ·go_wp2_with fail;refine(nW HQ hus _).mono ?_;rintro e w3 ⟨rfl,hs3⟩;have H3:=ns (BT (HS.out.1.sm hs3 (fun h=>h)) (HS.out.2.tt hs3));have d0:=H3.out.1.at 0 (v:=.string nm) rfl;have d1:=H3.out.1.at 1 (v:=.string ⟨#[]⟩) rfl;have y0:=H3.out.1.fz 0;have y1:=H3.out.1.fz 1;clear hs3 c0 c1 z0 z1;have hn2:0 < n:=by omega
       have hn3:(n:Int)≤(u.size:Int):=by omega
       have hbV:Bk (w3.setCell ⟨w.heap.size,1,none⟩ (.string ⟨Q.toArray⟩)) w.heap.size 328 #[.string nm,.string ⟨Q.toArray⟩]:=(H3.out.1.set 1 _).eq (by rfl);have hsV:=H3.out.2.setN (Nat.le_refl _) 1 (.string ⟨Q.toArray⟩);go_wp2_with fail;generalize w3.setCell ⟨w.heap.size,1,none⟩ (.string ⟨Q.toArray⟩)=w5 at hbV hsV ⊢;have f0:=hbV.at 0 (v:=.string nm) rfl;have f1:=hbV.at 1 (v:=.string ⟨Q.toArray⟩) rfl;have x0:=hbV.fz 0;have x1:=hbV.fz 1;clear d0 d1 y0 y1
       go_region
       all_goals
        go_wp2_with fail;have hsF:=((hsV.setN (Nat.le_refl _) 0 (.string nm)).setN (Nat.le_refl _) 1 (.string ⟨Q.toArray⟩)).drew;have hp:bK s.data.toList=some ((nm.data.toList,(⟨Q.toArray⟩:ByteArray).data.toList),(u.extract n u.size).data.toList):=by
         rw [HPE3.out,if_neg hn,Lib.extract_to_end]
        exact bodyPost_ret (v:=.tuple #[.agg #[.string nm,.string ⟨Q.toArray⟩],.string (u.extract n u.size),.bool true]) (by simp [results,Tryz.results299,go_sem,f0,f1]) rfl ⟨hsF,Or.inr ⟨nm,⟨Q.toArray⟩,_,hp,rfl⟩⟩
     ·have hp:bK s.data.toList=some ((nm.data.toList,(⟨#[]⟩:ByteArray).data.toList),t.data.toList):=by rw [HPE2.out,htl,ii,if_neg hq2]
      have HP:=ns hp;have hq3:((t[0].toNat:Int) != 61)=true:=by
       simp;intro h;exact hq2 (UInt8.toNat_inj.mp (by have:(61:UInt8).toNat=61:=rfl;omega))
      have htz:0 < t.size:=by omega
      clear hp hq2 htl;go_wp2_with fail;refine bodyPost_ret (v:=.tuple #[.agg #[.string nm,.string ⟨#[]⟩],.string t,.bool true]) (by simp [results,Tryz.results299,go_sem,c0,c1]) rfl ⟨?_,Or.inr ⟨nm,⟨#[]⟩,t,HP.out,rfl⟩⟩;exact((HB1.out.setN (Nat.le_refl _) _ _).setN (Nat.le_refl _) _ _).setN (Nat.le_refl _) _ _
  ·have hp:bK s.data.toList=none:=by rw [hl,bK,if_neg hq]
   have HP:=ns hp;have hq1:((s[0].toNat:Int) != 59)=true:=by
    simp;intro h;exact hq (UInt8.toNat_inj.mp (by have:(59:UInt8).toNat=59:=rfl;omega))
   have hz:0 < s.size:=by omega
   clear hp hl hq;go_in;go_wp2_with fail;refine bodyPost_ret (v:=.tuple #[.agg #[.string ⟨#[]⟩,.string ⟨#[]⟩],.string s,.bool false]) (by simp [results,Tryz.results299,go_sem]) rfl ⟨?_,Or.inl ⟨HP.out,_,_,_,rfl⟩⟩;exact(Sm.refl No w).alloc _
abbrev ve:=List UInt8 × List UInt8
def jk(l:List ve):List Value:=l.flatMap fun p=>[aX p.1,aX p.2]
theorem dL(l:List ve)(p:ve):jk (l++[p])=jk l++[aX p.1,aX p.2]:=by simp [jk]
def iZ(t:TypeId)(w:World)(B:Nat)(v:Value)(l:List ve):Prop:=w.ownsRow B t 2 v l.length (jk l)
theorem iZ.no{t:TypeId}{w w':World}{B:Nat}{v:Value}{l:List ve}(h:iZ t w B v l)(hs:Sm No w w'):iZ t w' B v l:=aa h hs (fun _ _ h=>h)
def ij(t:TypeId)(s:ByteArray)(w:World)(e:Ending)(w':World):Prop:=
 (∃ r v,br s.data.toList=some r∧e=.returned (.tuple #[v,.bool true])∧iZ t w' w.heap.size v r∧r.length≤16∧Sm No w w')∨
 (br s.data.toList=none∧e=.returned (.tuple #[.slice none 0 0,.bool false])∧Sm No w w')
theorem xh{n l r:List UInt8}{p:ve}(h:ii n l=some (p,r)):r.length≤l.length:=by
 cases l with
 |nil=>simp only [ii,Option.some.injEq,Prod.mk.injEq] at h;rw [←h.2];exact Nat.le_refl _
 |cons d s=>
  rw [ii] at h;split at h
  ·split at h
   ·split at h
    ·cases h
    ·simp only [Option.some.injEq,Prod.mk.injEq] at h;rw [←h.2];simp;omega
   ·simp only [Option.some.injEq,Prod.mk.injEq] at h;rw [←h.2];simp;omega
  ·simp only [Option.some.injEq,Prod.mk.injEq] at h;rw [←h.2];exact Nat.le_refl _
theorem fK{l r:List UInt8}{p:ve}(h:bK l=some (p,r)):r.length < l.length:=by
 cases l with
 |nil=>simp [bK] at h
 |cons c l=>
  rw [bK] at h;split at h
  ·split at h
   ·cases h
   ·have h1:=xh h;have h2:=fN l;simp at h1 ⊢;omega
  ·cases h
theorem mG{k:Nat}{acc:List ve}{s:List UInt8}(h:aO s=[]):cn (k+1) acc s=some acc:=by rw [cn,if_pos h]
theorem dv{k:Nat}{acc:List ve}{s:List UInt8}(h:aO s≠[])(hp:bK (aO s)=none):cn (k+1) acc s=none:=by rw [cn,if_neg h,hp]
theorem kq{acc:List ve}{s:List UInt8}{x:ve × List UInt8}(h:aO s≠[])(hp:bK (aO s)=some x):cn 1 acc s=none:=by rw [cn,if_neg h,hp];rfl
theorem eH{k:Nat}{acc:List ve}{s r:List UInt8}{p:ve}(h:aO s≠[])(hp:bK (aO s)=some (p,r))(hk:k≠0):cn (k+1) acc s=cn k (acc++[p]) r:=by rw [cn,if_neg h,hp];show (if k=0 then none else _)=_;rw [if_neg hk]
def Ep(t:TypeId)(s0:ByteArray)(w:World)(s l:Value)(wr:World):Prop:=
 ∃ (x:ByteArray) (acc:List ve),s=.string x∧x.size≤1000000∧acc.length≤16∧br s0.data.toList=cn (17-acc.length) acc x.data.toList∧iZ t wr w.heap.size l acc∧Sm No w wr
theorem ER:(Tryz.prog.info? 328).map (fun i=>(i.zero,i.size,i.bytes))=some (some (.agg #[.string ⟨#[]⟩,.string ⟨#[]⟩]),2,32):=by kernel_rfl
theorem wD(s0:ByteArray)(hs0:s0.size≤1000000)(w:World):Calls Tryz.prog 288 #[.string s0] w (ij 328 s0 w):=by
 go_in;go_wp2_with fail
 go_loopw [0,4] (fun s l wr=>Ep 328 s0 w s l wr) (fun s _ _=>eU s)
 case atStart=>exact⟨s0,[],rfl,hs0,by simp,rfl,World.ownsRow_nil _ _ _ 2,Sm.refl _ _⟩
 case round=>
  obtain⟨x,acc,rfl,hx,hacc,hP,hO,hsm⟩:=hrel;obtain⟨r,hr⟩:=Iu ((⟨(aO x.data.toList).toArray⟩:ByteArray));have hrd:r.data.toList=aO x.data.toList:=by rw [←hr]
  have hrx:r.size≤x.size:=by
   rw [ai,ai,hrd];exact fN _
  obtain⟨k,hk⟩:∃ k,17-acc.length=k+1:=⟨16-acc.length,by omega⟩;rw [hk] at hP;have HR:=ns hr;have HP:=ns (BT hP (BT hO (BT hsm hrd)));clear hr hP hO hsm hrd;go_wp2_with fail;refine(lC HR _).mono ?_;rintro e w1 ⟨rfl,hs1⟩;have HW:=ns (BT (aa HP.out.2.1 hs1 (fun _ _ h=>h)) (HP.out.2.2.1.tt hs1));clear hs1;by_cases h0:r.size=0
  ·obtain⟨g1,g2⟩:=ik h0;have hp:br s0.data.toList=some acc:=by rw [HP.out.1,mG (by rw [←HP.out.2.2.2];exact(dC r).2 h0)]
   have HE:=ns hp;clear hp;go_wp2_with fail;go_ret2;exact Or.inl ⟨acc,_,HE.out,rfl,HW.out.1,hacc,HW.out.2⟩
  ·obtain⟨g1,g2⟩:=fM h0;have hne:aO x.data.toList≠[]:=by rw [←HP.out.2.2.2];exact fun e=>h0 ((dC r).1 e)
   have HN:=ns hne;clear hne;go_wp2_with fail;refine(yH r (by omega) _).mono ?_;rintro e w2 ⟨hs2,hcase⟩;have HW2:=ns (BT (aa HW.out.1 hs2 (fun _ _ h=>h)) (HW.out.2.tt hs2));clear hs2;rcases hcase with ⟨hno,a,b,q,rfl⟩|⟨a,b,q,hyes,rfl⟩
   ·have hp:br s0.data.toList=none:=by rw [HP.out.1,dv HN.out (by rw [←HP.out.2.2.2];exact hno)]
    have HE:=ns hp;clear hp hno;go_wp2_with fail;go_ret2;exact Or.inr ⟨HE.out,rfl,HW2.out.2.alloc _⟩
   ·have hql:q.size < r.size:=by
     rw [ai,ai r];exact fK hyes
    rw [HP.out.2.2.2] at hyes;obtain⟨A4,c4,rfl,_⟩:=ak HW2.out.1;by_cases h16:acc.length=16
    ·have hp:br s0.data.toList=none:=by
      have e:k=0:=by omega
      subst e;rw [HP.out.1,kq HN.out hyes]
     have HE:=ns hp;have h16':(((acc.length:Nat):Int)==16)=true:=by rw [h16];rfl
     clear hp hyes;go_wp2_with fail;go_ret2;exact Or.inr ⟨HE.out,rfl,HW2.out.2.alloc _⟩
    ·have hp:br s0.data.toList=cn (17-(acc++[(a.data.toList,b.data.toList)]).length) (acc++[(a.data.toList,b.data.toList)]) q.data.toList:=by
      rw [HP.out.1,eH HN.out hyes (by omega)];congr 1;simp;omega
     have HE:=ns hp;have h16':(((acc.length:Nat):Int)==16)=false:=by simp;omega
     clear hp hyes;go_wp2_with (refine aq rfl _ _ 318 328 rfl Tryz.underlying318 _ 2 32 ER rfl (by decide) (by decide) w.heap.size _ (.slice A4 acc.length c4) _ rfl (World.ownsRow.alloc (World.ownsRow.alloc HW2.out.1 _) _) _ #[.string a,.string b] rfl (Bk.newAt _ _ _ (by simp)) rfl (by simp [Value.oneCell']) (by omega) (by have:=HW2.out.2.size;simp;omega) ?_;intro v' w5 hown5 hs5 hv5);have hO5:iZ 328 w5 w.heap.size v' (acc++[(a.data.toList,b.data.toList)]):=by
      unfold iZ;rw [dL,List.length_append];exact hown5
     have hS5:Sm No w w5:=(((HW2.out.2.alloc (.cells #[.string a,.string b] 328)).alloc (.cells #[.string a,.string b] 328))).trans hs5 (fun b hb e=>by
      have:=(World.ownsRow.lt HW2.out.1 b e).1;omega)
     have H5:=ns (BT hO5 hS5);clear hO5 hS5 hown5 hs5 hv5;go_wp2_with fail;exact⟨⟨q,acc++[(a.data.toList,b.data.toList)],rfl,by omega,by simp;omega,HE.out,H5.out.1,H5.out.2⟩,by simp [eU];omega⟩
theorem vX{acc:List ve}{s:List UInt8}(h:aO s≠[]):cn 1 acc s=none:=by
 cases hp:bK (aO s) with
 |none=>exact dv h hp
 |some x=>exact kq h hp
theorem uA{u:List UInt8}(h:cy u≠[]):(be u).2=0:=by
 cases u with
 |nil=>rfl
 |cons c l=>
  by_cases hc:c=34
  ·subst hc;exact absurd (show cy (34::l)=[] by unfold cy;rw [List.takeWhile_cons,if_neg (by decide)]) h
  ·rw [be,if_neg hc]
theorem sQ{s:ByteArray}{R:List UInt8 × Nat}(h:Hid (be s.data.toList=R))(hs:s.size≤1000000)(w:World):Calls Tryz.prog 275 #[.string s] w fun e w'=>e=.returned (.tuple #[.string ⟨R.1.toArray⟩,.int .i64 (R.2:Int)])∧Sm No w w':=by
 rw [←h.out];exact sf s hs w
theorem kH:(Tryz.prog.info? 312).map (fun i=>(i.zero,i.size,i.bytes))=some (some (.agg #[.string ⟨#[]⟩,.string ⟨#[]⟩]),2,32):=by kernel_rfl
theorem uV(s0:ByteArray)(hs0:s0.size≤1000000)(w:World):Calls Tryz.prog 241 #[.string s0] w (ij 312 s0 w):=by
 go_in;go_wp2_with fail
 go_loopw [0,4] (fun s l wr=>Ep 312 s0 w s l wr) (fun s _ _=>eU s)
 case atStart=>exact⟨s0,[],rfl,hs0,by simp,rfl,World.ownsRow_nil _ _ _ 2,Sm.refl _ _⟩
 case round=>
  obtain⟨x,acc,rfl,hx,hacc,hP,hO,hsm⟩:=hrel;obtain⟨k,hk⟩:∃ k,17-acc.length=k+1:=⟨16-acc.length,by omega⟩;rw [hk] at hP;obtain⟨A4,c4,hv4,_⟩:=ak hO;subst hv4;have HP:=ns (BT hP (BT hO hsm));clear hP hO hsm;go_wp2_with fail;refine(mv x hx _).mono ?_;rintro e w1 ⟨k1,hk1,hkd,rfl,rfl⟩;obtain⟨r,hr⟩:=Iu (x.extract k1 x.size);have hrd:r.data.toList=aO x.data.toList:=by rw [←hr,Lib.extract_to_end,hkd]
  have hrx:r.size≤x.size:=by rw [←hr];simp
  have q1:(0:Int)≤(k1:Int):=by omega
  have q2:(k1:Int)≤(x.size:Int):=by omega
  have HRD:=ns hrd;clear hkd hrd;by_cases h0:r.size=0
  ·obtain⟨g1,g2⟩:=ik h0;have hp:br s0.data.toList=some acc:=by rw [HP.out.1,mG (by rw [←HRD.out];exact(dC r).2 h0)]
   have HE:=ns hp;clear hp;go_wp2_with fail;go_ret2;exact Or.inl ⟨acc,_,HE.out,rfl,HP.out.2.1,hacc,HP.out.2.2⟩
  ·obtain⟨g1,g2⟩:=fM h0;have hne:aO x.data.toList≠[]:=by rw [←HRD.out];exact fun e=>h0 ((dC r).1 e)
   have HN:=ns hne;have hrz:0 < r.size:=by omega
   have hrz1:(1:Int)≤(r.size:Int):=by omega
   have hrl:=bL r 0 hrz;rw [List.drop_zero] at hrl;clear hne;by_cases hq:r[0]=59
   ·have hq1:((r[0].toNat:Int) != 59)=false:=by simp [hq]
    by_cases h16:acc.length=16
    ·have hp:br s0.data.toList=none:=by
      have e:k=0:=by omega
      subst e;rw [HP.out.1,vX HN.out]
     have HE:=ns hp;have h16':(((acc.length:Nat):Int)==16)=true:=by rw [h16];rfl
     clear hp hrl hq;go_wp2_with fail;go_ret2;exact Or.inr ⟨HE.out,rfl,HP.out.2.2⟩
    ·have h16':(((acc.length:Nat):Int)==16)=false:=by simp;omega
     have hpe:=qw (r:=r.data.toList.drop 1) hq;rw [←hrl,HRD.out] at hpe;obtain⟨y,hy⟩:=Iu (r.extract 1 r.size);have hyd:y.data.toList=r.data.toList.drop 1:=by rw [←hy,Lib.extract_to_end]
     have hys:y.size+1≤r.size:=by rw [←hy];simp;omega
     rw [←HRD.out,←hyd] at hpe;have HPE:=ns hpe;clear hpe hyd hrl hq;go_wp2_with fail;refine(mv y (by omega) _).mono ?_;rintro e w2 ⟨k2,hk2,hkd2,rfl,rfl⟩;obtain⟨z,hz⟩:=Iu (y.extract k2 y.size);have hzd:z.data.toList=aO y.data.toList:=by rw [←hz,Lib.extract_to_end,hkd2]
     have hzy:z.size≤y.size:=by rw [←hz];simp
     have q3:(0:Int)≤(k2:Int):=by omega
     have q4:(k2:Int)≤(y.size:Int):=by omega
     have hpe:=HPE.out;rw [←hzd] at hpe;have HPE1:=ns hpe;clear hkd2 hzd hpe;go_wp2_with fail;refine(nQ z (by omega) _).mono ?_;rintro e w2 ⟨n,hn,hnt,rfl,rfl⟩;have hnl:(cy z.data.toList).length=n:=by rw [←hnt];simp;omega
     have q5:(0:Int)≤(n:Int):=by omega
     have q6:(n:Int)≤(z.size:Int):=by omega
     have HNT:=ns (BT hnt hnl);clear hnt hnl;by_cases hn0:n=0
     ·subst hn0;have hp:br s0.data.toList=none:=by
       rw [HP.out.1,dv HN.out (by rw [←HRD.out,HPE1.out,if_pos (List.eq_nil_of_length_eq_zero HNT.out.2)])]
      have HE:=ns hp;clear hp;go_wp2_with fail;go_ret2;exact Or.inr ⟨HE.out,rfl,HP.out.2.2⟩
     ·have hn0':(((n:Nat):Int)==0)=false:=by simpa using hn0
      obtain⟨nm,hnm⟩:∃ x,z.extract 0 n=x:=⟨_,rfl⟩;have hnd:nm.data.toList=cy z.data.toList:=by rw [←hnm,Lib.extract_data,List.drop_zero,←HNT.out.1];simp
      obtain⟨t,ht⟩:∃ x,z.extract n z.size=x:=⟨_,rfl⟩;have htd:t.data.toList=z.data.toList.drop n:=by rw [←ht,Lib.extract_to_end]
      have hts:t.size≤z.size:=by rw [←ht];simp
      have hpe:=HPE1.out;rw [if_neg (fun e=>hn0 (by rw [←HNT.out.2,e];rfl)),HNT.out.2,←htd,←hnd] at hpe;have HPE2:=ns hpe;have hb0:=Bk.new wr 312 #[.string nm,.string ⟨#[]⟩];have HB0:=ns (BT hb0 (BT (World.ownsRow.alloc HP.out.2.1 (.cells #[.string nm,.string ⟨#[]⟩] 312)) (HP.out.2.2.alloc (.cells #[.string nm,.string ⟨#[]⟩] 312))));clear hpe hnd htd hb0;by_cases ht0:t.size=0
      ·obtain⟨g3,g4⟩:=ik ht0;have hyes:bK (aO x.data.toList)=some ((nm.data.toList,(⟨#[]⟩:ByteArray).data.toList),t.data.toList):=by rw [←HRD.out,HPE2.out,(dC t).2 ht0];rfl
       have HYES:=ns hyes;clear hyes;have hyes:=HYES.out;have hql:t.size < x.size:=by
        have h1:=fK hyes;have h2:=fN x.data.toList;rw [ai,ai x];omega
       have hp:br s0.data.toList=cn (17-(acc++[(nm.data.toList,(⟨#[]⟩:ByteArray).data.toList)]).length) (acc++[(nm.data.toList,(⟨#[]⟩:ByteArray).data.toList)]) t.data.toList:=by
        rw [HP.out.1,eH HN.out hyes (by omega)];congr 1;simp;omega
       have HE:=ns hp;clear hp hyes;go_wp2_with (refine aq rfl _ _ 284 312 rfl Tryz.underlying284 _ 2 32 kH rfl (by decide) (by decide) w.heap.size _ (.slice A4 acc.length c4) _ rfl (World.ownsRow.alloc HB0.out.2.1 _) _ #[.string nm,.string (⟨#[]⟩:ByteArray)] rfl (Bk.newAt _ _ _ (by simp)) rfl (by simp [Value.oneCell']) (by omega) (by have:=HB0.out.2.2.size;simp at this ⊢;omega) ?_;intro v' w5 hown5 hs5 hv5);have hO5:iZ 312 w5 w.heap.size v' (acc++[(nm.data.toList,(⟨#[]⟩:ByteArray).data.toList)]):=by
        unfold iZ;rw [dL,List.length_append];exact hown5
       have hS5:Sm No w w5:=(HB0.out.2.2.alloc (.cells #[.string nm,.string (⟨#[]⟩:ByteArray)] 312)).trans hs5 (fun b hb e=>by
        have:=(World.ownsRow.lt HB0.out.2.1 b e).1;omega)
       have H5:=ns (BT hO5 hS5);clear hO5 hS5 hown5 hs5 hv5;go_wp2_with fail;exact⟨⟨t,acc++[(nm.data.toList,(⟨#[]⟩:ByteArray).data.toList)],rfl,by omega,by simp;omega,HE.out,H5.out.1,H5.out.2⟩,by simp [eU];omega⟩
      ·obtain⟨g3,g4⟩:=fM ht0;have htz:0 < t.size:=by omega
       have htz1:(1:Int)≤(t.size:Int):=by omega
       have htl:=bL t 0 htz;rw [List.drop_zero] at htl;by_cases hq2:t[0]=61
       ·have hq3:((t[0].toNat:Int)==61)=true:=by simp [hq2]
        obtain⟨u,hu⟩:∃ x,t.extract 1 t.size=x:=⟨_,rfl⟩;have hud:u.data.toList=t.data.toList.drop 1:=by rw [←hu,Lib.extract_to_end]
        have hus:u.size≤1000000:=by rw [←hu];simp;omega
        have hpe:=HPE2.out;rw [htl,ii,if_pos hq2,←hud,HRD.out] at hpe;have HPE3:=ns hpe;clear hud htl hq2 hpe;go_wp2_with fail;obtain⟨wa,hwa⟩:∃ wa,wr.alloc (.cells #[.string nm,.string ⟨#[]⟩] 312)=wa:=⟨_,rfl⟩;rw [hwa] at HB0 ⊢;clear hwa;refine(nQ u hus _).mono ?_;rintro e w2 ⟨n2,hn2,hnt2,rfl,rfl⟩;have q7:(0:Int)≤(n2:Int):=by omega
        have q8:(n2:Int)≤(u.size:Int):=by omega
        have hnl2:(cy u.data.toList).length=n2:=by rw [←hnt2];simp;omega
        obtain⟨v,hv⟩:∃ x,u.extract 0 n2=x:=⟨_,rfl⟩;have hvd:v.data.toList=cy u.data.toList:=by rw [←hv,Lib.extract_data,List.drop_zero,←hnt2];simp
        have d0:=HB0.out.1.at 0 (v:=.string nm) rfl;have d1:=HB0.out.1.at 1 (v:=.string ⟨#[]⟩) rfl;have y1:=HB0.out.1.fz 1;have hbV:Bk (wa.setCell ⟨wr.heap.size,1,none⟩ (.string v)) wr.heap.size 312 #[.string nm,.string v]:=(HB0.out.1.set 1 _).eq (by rfl);have hne4:∀ b,(Value.slice A4 acc.length c4).ownBlock=some b→b≠wr.heap.size:=fun b hb e=>by
         have:=(World.ownsRow.lt HP.out.2.1 b hb).2;omega
        have hoV:=aa HB0.out.2.1 ((Sm.refl (fun x=>x=wr.heap.size) wa).set1 1 (.string v)) hne4;have hwr:=HP.out.2.2.size;have hsV:=HB0.out.2.2.setN (g:=wr.heap.size) hwr 1 (.string v);have HB1:=ns (BT hbV (BT hoV hsV));have HV:=ns (BT hvd hnl2);have HNE:=ns hne4;clear hbV hoV hsV hvd hnl2 hnt2 hne4;by_cases hn3:n2=0
        ·subst hn3;obtain rfl:v=ByteArray.empty:=by rw [←hv];simp
         clear hv;obtain⟨⟨Q,m⟩,hQ⟩:∃ R,be u.data.toList=R:=⟨_,rfl⟩;have hpe:=HPE3.out;rw [hQ,if_pos (List.eq_nil_of_length_eq_zero HV.out.2)] at hpe;have HPE4:=ns hpe;have HQ:=ns hQ;have hmu:m≤u.size:=by
          by_cases hm:m=0
          ·omega
          ·rw [ai];exact(nP hQ hm).1
         clear hpe hQ;go_wp2_with fail;obtain⟨wb,hwb⟩:=Iu (wa.setCell ⟨wr.heap.size,1,none⟩ (.string ByteArray.empty));rw [hwb] at HB1 ⊢;clear hwb d0 d1 y1;refine(sQ HQ hus _).mono ?_;rintro e w6 ⟨rfl,hs6⟩;have H6:=ns (BT (HB1.out.1.sm hs6 (fun h=>h)) (BT (aa HB1.out.2.1 hs6 (fun _ _ h=>h)) (HB1.out.2.2.tt hs6)));have d2:=H6.out.1.at 1 (v:=.string ByteArray.empty) rfl;have y2:=H6.out.1.fz 1;have hbQ:Bk (w6.setCell ⟨wr.heap.size,1,none⟩ (.string ⟨Q.toArray⟩)) wr.heap.size 312 #[.string nm,.string ⟨Q.toArray⟩]:=(H6.out.1.set 1 _).eq (by rfl);have hoQ:=aa H6.out.2.1 ((Sm.refl (fun x=>x=wr.heap.size) w6).set1 1 (.string ⟨Q.toArray⟩)) HNE.out;have hsQ:=H6.out.2.2.setN (g:=wr.heap.size) hwr 1 (.string ⟨Q.toArray⟩);have HBQ:=ns (BT hbQ (BT hoQ hsQ));clear hs6 hbQ hoQ hsQ;by_cases hm:m=0
         ·subst hm;have hp:br s0.data.toList=none:=by
           rw [HP.out.1,dv HN.out (by rw [HPE4.out,if_pos rfl])]
          have HE:=ns hp;clear hp;go_wp2_with fail;go_ret2;exact Or.inr ⟨HE.out,rfl,HBQ.out.2.2⟩
         ·have hm2:(((m:Nat):Int)==0)=false:=by simpa using hm
          have hm3:(m:Int)≤(u.size:Int):=by omega
          have hm4:(0:Int)≤(m:Int):=by omega
          obtain⟨q,hqq⟩:∃ x,u.extract m u.size=x:=⟨_,rfl⟩;have hyes:bK (aO x.data.toList)=some ((nm.data.toList,(⟨Q.toArray⟩:ByteArray).data.toList),q.data.toList):=by
           rw [HPE4.out,if_neg hm,←hqq,Lib.extract_to_end]
          have HYES:=ns hyes;clear hyes;have d3:=H6.out.1.at 0 (v:=.string nm) rfl;have hyes:=HYES.out;have hql:q.size < x.size:=by
           have h1:=fK hyes;have h2:=fN x.data.toList;rw [ai,ai x];omega
          have hp:br s0.data.toList=cn (17-(acc++[(nm.data.toList,(⟨Q.toArray⟩:ByteArray).data.toList)]).length) (acc++[(nm.data.toList,(⟨Q.toArray⟩:ByteArray).data.toList)]) q.data.toList:=by
           rw [HP.out.1,eH HN.out hyes (by omega)];congr 1;simp;omega
          have HE:=ns hp;clear hp hyes;go_wp2_with (refine aq rfl _ _ 284 312 rfl Tryz.underlying284 _ 2 32 kH rfl (by decide) (by decide) w.heap.size _ (.slice A4 acc.length c4) _ rfl (World.ownsRow.alloc HBQ.out.2.1 _) _ #[.string nm,.string (⟨Q.toArray⟩:ByteArray)] rfl (Bk.newAt _ _ _ (by simp)) rfl (by simp [Value.oneCell']) (by omega) (by have:=HBQ.out.2.2.size;simp at this ⊢;omega) ?_;intro v' w5 hown5 hs5 hv5);have hO5:iZ 312 w5 w.heap.size v' (acc++[(nm.data.toList,(⟨Q.toArray⟩:ByteArray).data.toList)]):=by
           unfold iZ;rw [dL,List.length_append];exact hown5
          have hS5:Sm No w w5:=(HBQ.out.2.2.alloc (.cells #[.string nm,.string (⟨Q.toArray⟩:ByteArray)] 312)).trans hs5 (fun b hb e=>by
           have:=(World.ownsRow.lt HBQ.out.2.1 b e).1;omega)
          have H5:=ns (BT hO5 hS5);clear hO5 hS5 hown5 hs5 hv5;go_wp2_with fail;exact⟨⟨q,acc++[(nm.data.toList,(⟨Q.toArray⟩:ByteArray).data.toList)],rfl,by omega,by simp;omega,HE.out,H5.out.1,H5.out.2⟩,by simp [eU];omega⟩
        ·have hn3':(((n2:Nat):Int)==0)=false:=by simpa using hn3
         have htk:cy u.data.toList≠[]:=fun e=>hn3 (by rw [←HV.out.2,e];rfl);obtain⟨q,hqq⟩:∃ x,u.extract n2 u.size=x:=⟨_,rfl⟩;have hyes:bK (aO x.data.toList)=some ((nm.data.toList,v.data.toList),q.data.toList):=by
          rw [HPE3.out,if_pos (uA htk),if_neg htk,←hqq,Lib.extract_to_end,HV.out.1,HV.out.2]
         have HYES:=ns hyes;clear hyes htk;have hyes:=HYES.out;have hql:q.size < x.size:=by
          have h1:=fK hyes;have h2:=fN x.data.toList;rw [ai,ai x];omega
         have hp:br s0.data.toList=cn (17-(acc++[(nm.data.toList,v.data.toList)]).length) (acc++[(nm.data.toList,v.data.toList)]) q.data.toList:=by
          rw [HP.out.1,eH HN.out hyes (by omega)];congr 1;simp;omega
         have HE:=ns hp;clear hp hyes;go_wp2_with (refine aq rfl _ _ 284 312 rfl Tryz.underlying284 _ 2 32 kH rfl (by decide) (by decide) w.heap.size _ (.slice A4 acc.length c4) _ rfl (World.ownsRow.alloc HB1.out.2.1 _) _ #[.string nm,.string v] rfl (Bk.newAt _ _ _ (by simp)) rfl (by simp [Value.oneCell']) (by omega) (by have:=HB1.out.2.2.size;simp at this ⊢;omega) ?_;intro v' w5 hown5 hs5 hv5);have hO5:iZ 312 w5 w.heap.size v' (acc++[(nm.data.toList,v.data.toList)]):=by
          unfold iZ;rw [dL,List.length_append];exact hown5
         have hS5:Sm No w w5:=(HB1.out.2.2.alloc (.cells #[.string nm,.string v] 312)).trans hs5 (fun b hb e=>by
          have:=(World.ownsRow.lt HB1.out.2.1 b e).1;omega)
         have H5:=ns (BT hO5 hS5);clear hO5 hS5 hown5 hs5 hv5;go_wp2_with fail;exact⟨⟨q,acc++[(nm.data.toList,v.data.toList)],rfl,by omega,by simp;omega,HE.out,H5.out.1,H5.out.2⟩,by simp [eU];omega⟩
       ·have hq3:((t[0].toNat:Int)==61)=false:=by
         simp;intro h;exact hq2 (UInt8.toNat_inj.mp (by have:(61:UInt8).toNat=61:=rfl;omega))
        have hyes:bK (aO x.data.toList)=some ((nm.data.toList,(⟨#[]⟩:ByteArray).data.toList),t.data.toList):=by rw [←HRD.out,HPE2.out,htl,ii,if_neg hq2]
        have HYES:=ns hyes;clear hyes htl hq2;have hyes:=HYES.out;have hql:t.size < x.size:=by
         have h1:=fK hyes;have h2:=fN x.data.toList;rw [ai,ai x];omega
        have hp:br s0.data.toList=cn (17-(acc++[(nm.data.toList,(⟨#[]⟩:ByteArray).data.toList)]).length) (acc++[(nm.data.toList,(⟨#[]⟩:ByteArray).data.toList)]) t.data.toList:=by
         rw [HP.out.1,eH HN.out hyes (by omega)];congr 1;simp;omega
        have HE:=ns hp;clear hp hyes;go_wp2_with (refine aq rfl _ _ 284 312 rfl Tryz.underlying284 _ 2 32 kH rfl (by decide) (by decide) w.heap.size _ (.slice A4 acc.length c4) _ rfl (World.ownsRow.alloc HB0.out.2.1 _) _ #[.string nm,.string (⟨#[]⟩:ByteArray)] rfl (Bk.newAt _ _ _ (by simp)) rfl (by simp [Value.oneCell']) (by omega) (by have:=HB0.out.2.2.size;simp at this ⊢;omega) ?_;intro v' w5 hown5 hs5 hv5);have hO5:iZ 312 w5 w.heap.size v' (acc++[(nm.data.toList,(⟨#[]⟩:ByteArray).data.toList)]):=by
         unfold iZ;rw [dL,List.length_append];exact hown5
        have hS5:Sm No w w5:=(HB0.out.2.2.alloc (.cells #[.string nm,.string (⟨#[]⟩:ByteArray)] 312)).trans hs5 (fun b hb e=>by
         have:=(World.ownsRow.lt HB0.out.2.1 b e).1;omega)
        have H5:=ns (BT hO5 hS5);clear hO5 hS5 hown5 hs5 hv5;go_wp2_with fail;exact⟨⟨t,acc++[(nm.data.toList,(⟨#[]⟩:ByteArray).data.toList)],rfl,by omega,by simp;omega,HE.out,H5.out.1,H5.out.2⟩,by simp [eU];omega⟩
   ·have hp:br s0.data.toList=none:=by rw [HP.out.1,dv HN.out (by rw [←HRD.out,hrl,bK,if_neg hq])]
    have HE:=ns hp;have hq1:((r[0].toNat:Int) != 59)=true:=by
     simp;intro h;exact hq (UInt8.toNat_inj.mp (by have:(59:UInt8).toNat=59:=rfl;omega))
    clear hp hrl hq;go_wp2_with fail;go_ret2;exact Or.inr ⟨HE.out,rfl,HP.out.2.2⟩
theorem bo.row{w:World}{B:Nat}{v:Value}{l:List (List UInt8)}(h:bo w B v l):∃ A c,v=.slice A l.length c∧ar w A (l.map aX)∧(∀ a,A=some a→B≤a.block∧a.block < w.heap.size):=by
 obtain⟨A,c,rfl,hR,_,_⟩:=ak h;exact⟨A,c,rfl,hR,fun a ha=>by subst ha;exact World.ownsRow.lt h a.block rfl⟩
theorem iZ.row{t:TypeId}{w:World}{B:Nat}{v:Value}{l:List ve}(h:iZ t w B v l):∃ A c,v=.slice A l.length c∧ar w A (jk l):=by
 obtain⟨A,c,rfl,hR,_,_⟩:=ak h;exact⟨A,c,rfl,hR⟩
theorem ar.at{w:World}{A:Option Addr}{cs:List Value}(h:ar w A cs){j:Nat}{u:Value}(hj:cs[j]?=some u):∃ bb off,A=some ⟨bb,off,none⟩∧bb < w.heap.size∧w.cell? ⟨bb,off+j,none⟩=some u:=h j u hj
theorem fD.rowC{w:World}{A:Option Addr}{vs:List ByteArray}(h:fD w A vs):ar w A ((aj vs).map aX):=by
 intro j u hj;have hlt:j < vs.length:=by simpa [aj] using (List.getElem?_eq_some_iff.1 hj).1
 obtain⟨bb,off,hA,hb,h1⟩:=h j hlt;refine⟨bb,off,hA,hb,?_⟩;rw [h1];simp [aj,hlt] at hj;rw [←hj];rfl
def iM(vs:List ByteArray):Nat:=(vs.map fun s=>1+s.size).sum
theorem zx{vs:List ByteArray}{s:ByteArray}(h:s∈vs):1+s.size≤iM vs:=by
 induction vs with
 |nil=>cases h
 |cons x vs ih=>
  unfold iM at ih ⊢;rw [List.map_cons,List.sum_cons];rcases List.mem_cons.1 h with rfl|h
  ·omega
  ·have:=ih h;omega
theorem Ba(vs:List ByteArray):vs.length≤iM vs:=by
 induction vs with
 |nil=>simp
 |cons x vs ih=>unfold iM at ih ⊢;rw [List.map_cons,List.sum_cons,List.length_cons];omega
theorem wH(vs:List ByteArray):(cr vs 0).length≤iM vs:=by
 unfold cr aj;rw [List.drop_zero]
 induction vs with
 |nil=>simp
 |cons x vs ih=>
  unfold iM at ih ⊢;rw [List.map_cons,List.flatMap_cons,List.length_append,List.map_cons,List.sum_cons];have:=uy x.data.toList;rw [←ai] at this;omega
structure eT (vs:List ByteArray):Prop where
 len:vs.length≤3000
 size:∀ s∈vs,s.size≤3000
 rest:(cr vs 0).length≤3000
 cost:iM vs≤3000
theorem Es{vs:List ByteArray}(h:iM vs≤3000):eT vs:=
 ⟨Nat.le_trans (Ba vs) h,fun s hs=>by have:=zx hs;omega,Nat.le_trans (wH vs) h,h⟩
theorem lF:∀ (ps acc r:List (List UInt8)),dg acc ps=some r→r.length≤acc.length+ps.length
 |[],acc,r,h=>by simp [dg] at h;subst h;simp
 |p::ps,acc,r,h=>by
  by_cases h1:aw p=[]
  ·rw [gy acc ps h1] at h;have:=lF ps acc r h;simp;omega
  ·cases h2:bP (aw p)
   ·rw [jw acc ps h1 h2] at h;cases h
   ·rw [jx acc ps h1 h2] at h;have:=lF ps _ r h;simp at this ⊢;omega
theorem mu{vs:List ByteArray}{r:List (List UInt8)}(h:az (aj vs)=some r):r.length≤(cr vs 0).length:=by
 have:=lF _ _ _ h;simpa [cr] using this
theorem eT.many{vs:List ByteArray}(h:eT vs){r:List (List UInt8)}(hr:az (aj vs)=some r):r.length≤3000:=Nat.le_trans (mu hr) h.rest
def ru(T:Option (List (List UInt8)))(t:List UInt8):Bool:=match T with
 |some r=>r.any (·==aU t)
 |none=>false
theorem qY(r:List (List UInt8))(x:List UInt8):Lib.containsS (r.map fun l=>(⟨l.toArray⟩:ByteArray)) ⟨x.toArray⟩=r.any (·==x):=by
 rw [Bool.eq_iff_iff,Lib.containsS_iff,List.any_eq_true,List.mem_map];constructor
 ·rintro⟨l,hl,e⟩;have:l=x:=by
   have:=congrArg (fun b:ByteArray=>b.data.toList) e;simpa using this
  exact⟨l,hl,by simp [this]⟩
 ·rintro⟨l,hl,e⟩;exact⟨l,hl,by rw [beq_iff_eq.1 e]⟩
def xU(w:World)(r:List (List UInt8))(x:List UInt8)(i:Value)(wr:World):Prop:=
 ∃ k:Nat,k≤r.length∧i=.int .i64 k∧Sm No w wr∧(r.take k).any (·==x)=false
theorem BH(w:World)(t:ByteArray)(A:Option Addr)(c:Nat)(vs:List ByteArray)(hA:fD w A vs)(hv:eT vs)(ht:t.size≤1000000):
 Calls Tryz.prog 212 #[.string t,.slice A vs.length c] w fun e w'=>e=.returned (.bool (ru (az (aj vs)) t.data.toList))∧Sm No w w':=by
 have HT:=ns (gl w A c vs hA (by have:=hv.len;omega) (fun s hs=>by have:=hv.size s hs;omega) (by have:=hv.rest;omega));obtain⟨x,hx⟩:=Iu ((⟨(aU t.data.toList).toArray⟩:ByteArray));have hxd:x.data.toList=aU t.data.toList:=by rw [←hx]
 have HX:=ns hx;have hvl:=hv.rest;clear hA hx hv;obtain⟨b,hb⟩:=Iu (ru (az (aj vs)) t.data.toList);rw [hb];have HB:=ns (BT hb hxd);clear hb hxd;go_in;go_wp2_with fail;refine HT.out.mono ?_;rintro e w1 (⟨r,v,hr,rfl,hO,hs⟩|⟨hr,rfl,hs⟩)
 ·obtain⟨A2,c2,rfl,hR,hAb⟩:=hO.row;have hbr:r.any (·==aU t.data.toList)=b:=by rw [←HB.out.1,hr];rfl
  have hrl:r.length≤3000:=Nat.le_trans (mu hr) hvl;have H1:=ns (BT hbr (BT hR hs));clear hO hR hs hbr hr hAb;go_wp2_with fail
  go_loopw [7] (fun i wr=>xU w1 r (aU t.data.toList) i wr) (fun i _=>r.length-(intOf i).toNat)
  case atStart=>exact⟨0,Nat.zero_le _,rfl,Sm.refl _ _,rfl⟩
  case round=>
   obtain⟨k,hk,rfl,hsm,hno⟩:=hrel;have HS:=ns (BT hsm hno);clear hsm hno;by_cases hlt:k < r.length
   ·have e1:(r.map aX)[k]?=some (aX r[k]):=by simp [hlt]
    obtain⟨bb,off,hAe,hbb,r0⟩:=(H1.out.2.1.no HS.out.1).at e1;subst hAe;obtain⟨y,hy⟩:=Iu (r[k]);rw [hy,aX] at r0;have htk:(r.take (k+1)).any (·==aU t.data.toList)=(y==aU t.data.toList):=by
     rw [List.take_succ_eq_append_getElem hlt,List.any_append,HS.out.2,hy];simp
    have HY:=ns (BT htk hy);have k1:(0:Int)≤(k:Int):=by omega
    have k2:(k:Int) < (r.length:Int):=by omega
    clear htk hy e1;go_wp2_with fail
    go_region_held3 (fun w'=>w'.cell? ⟨bb,off+k,none⟩=some (.string ⟨y.toArray⟩)) (first|exact r0|exact r4)
     ((go_at_call 215;(with_reducible refine(eY HX ht _).mono ?_);rintro e w4 ⟨rfl,hs4⟩;have hs5:=HS.out.1.drew.tt hs4;have r4:=hs4.cell (by simpa using hbb) r0))
    all_goals go_wp2_with fail
    ·rename_i hyx
     have hbt:b=true:=by
      rw [←H1.out.1,List.any_eq_true];refine⟨y,by rw [←HY.out.2];exact List.getElem_mem hlt,?_⟩;rw [←HB.out.2,←Go.ByteArray.toList_eq];exact hyx
     subst hbt;go_ret;exact⟨rfl,H1.out.2.2.tt hs5⟩
    ·rename_i hyx
     have hno:(r.take (k+1)).any (·==aU t.data.toList)=false:=by
      rw [HY.out.1,←HB.out.2,←Go.ByteArray.toList_eq];exact hyx
     exact⟨⟨k+1,by omega,by go_num,hs5,hno⟩,by simp [intOf];omega⟩
   ·have hbf:b=false:=by
     have h1:=HS.out.2;rw [List.take_of_length_le (by omega),H1.out.1] at h1;exact h1
    subst hbf;go_wp2_with fail;go_ret;exact⟨rfl,H1.out.2.2.tt HS.out.1⟩
 ·have hbf:b=false:=by rw [←HB.out.1,hr];rfl
  subst hbf;have HS:=ns hs;clear hs hr;go_wp2_with fail
  go_loopw [7] (fun i wr=>xU w1 [] [] i wr) (fun i _=>0)
  case atStart=>exact⟨0,Nat.zero_le _,rfl,Sm.refl _ _,rfl⟩
  case round=>
   obtain⟨k,hk,rfl,hsm,_⟩:=hrel;obtain rfl:k=0:=by simpa using hk
   have HS2:=ns hsm;clear hsm;go_wp2_with fail;go_ret;exact⟨rfl,HS.out.tt HS2.out⟩
theorem Bk.rowC{w:World}{g:Nat}{t:TypeId}{cs:Array Value}(h:Bk w g t cs):ar w (some ⟨g,0,none⟩) cs.toList:=fun j u hj=>⟨g,0,rfl,h.lt,by rw [Nat.zero_add];exact h.at j (by simpa using hj)⟩
theorem F2{w:World}(h:w.ShapedOpen Tryz.prog):G0 w:=Tryz.laysM146.s1_3 w h
section
open Go.WideShapes Go.ChangeShapes
variable {H:Type} {enc:TypeId × Value→H} {w:World}
end
theorem eT.tokens{vs:List ByteArray}(h:eT vs)(w:World)(A:Option Addr)(c:Nat)(hg:G0 w)(hA:fD w A vs):Calls Tryz.prog 285 #[.slice A vs.length c] w (iG w vs):=
 vM w A c vs hg hA (by have:=h.len;omega) (fun s hs=>by have:=h.size s hs;omega) (by have:=h.rest;omega)
theorem eT.rTokens{vs:List ByteArray}(h:eT vs)(w:World)(A:Option Addr)(c:Nat)(hA:fD w A vs):Calls Tryz.prog 211 #[.slice A vs.length c] w (iG w vs):=
 gl w A c vs hA (by have:=h.len;omega) (fun s hs=>by have:=h.size s hs;omega) (by have:=h.rest;omega)
theorem qc{vs:List ByteArray}{t:ByteArray}{b:Bool}(h:Hid (ru (az (aj vs)) t.data.toList=b))(hv:eT vs)(ht:t.size≤1000000)(w:World)(A:Option Addr)(c:Nat)(hA:fD w A vs):
 Calls Tryz.prog 212 #[.string t,.slice A vs.length c] w fun e w'=>e=.returned (.bool b)∧Sm No w w':=by
 rw [←h.out];exact BH w t A c vs hA hv ht
theorem jT:∀ (ps acc r:List (List UInt8)) (m:Nat),dg acc ps=some r→(∀ l∈acc,l.length≤m)→(∀ p∈ps,p.length≤m)→∀ l∈r,l.length≤m
 |[],acc,r,m,h,ha,_=>by simp [dg] at h;subst h;exact ha
 |p::ps,acc,r,m,h,ha,hp=>by
  by_cases h1:aw p=[]
  ·rw [gy acc ps h1] at h;exact jT ps acc r m h ha (fun q hq=>hp q (List.mem_cons_of_mem _ hq))
  ·cases h2:bP (aw p)
   ·rw [jw acc ps h1 h2] at h;cases h
   ·rw [jx acc ps h1 h2] at h;refine jT ps _ r m h (fun l hl=> ?_) (fun q hq=>hp q (List.mem_cons_of_mem _ hq));rcases List.mem_append.1 hl with g|g
    ·exact ha l g
    ·obtain rfl:=List.mem_singleton.1 g;have e1:=fQ p;have e2:=hp p (by simp);unfold aU;rw [List.length_map];omega
theorem eT.toks{vs:List ByteArray}(h:eT vs){r:List (List UInt8)}(hr:az (aj vs)=some r):∀ l∈r,l.length≤3001:=by
 refine jT _ _ _ 3001 hr (fun l hl=>by cases hl) (fun p hp=> ?_);obtain⟨v,hv,hpv⟩:=List.mem_flatMap.1 hp;obtain⟨s,hs,rfl⟩:=List.mem_map.1 hv;have e1:=pj hpv;have e2:=h.size s hs;rw [←ai] at e1;omega
end Go.Proofs.YtcflkcbogofgbaaGreatDoor
