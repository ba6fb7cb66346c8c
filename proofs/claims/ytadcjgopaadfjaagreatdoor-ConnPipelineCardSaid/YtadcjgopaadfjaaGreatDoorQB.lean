import Derived.Test.YtadcjgopaadfjaaGreatDoorQF
import Derived.Test.YtadcjgopaadfjaaGreatDoorQO
import Derived.Deep.RegionLaw
set_option maxHeartbeats 4000000
namespace Go.Proofs.YtadcjgopaadfjaaGreatDoor
open Go.RowKit Go.Proofs
abbrev aM:=ByteArray × ByteArray
def av(l:List aM):List Value:=l.flatMap fun x=>[.string x.1,.string x.2]
def oz(x:aM):Bool:=Df x.1.data.toList x.2.data.toList
def bh:List aM→List aM→List aM × Nat × Int
 |cur,[]=>(cur,0,0)
 |cur,x::xs=>if oz x=false then (cur,0,8) else if 24≤cur.length then (cur,0,3) else ((bh (cur++[x]) xs).1,(bh (cur++[x]) xs).2.1+1,(bh (cur++[x]) xs).2.2)
theorem jn(l:List aM)(x:aM):av (l++[x])=av l++[.string x.1,.string x.2]:=by simp [av]
theorem fh(l:List aM):(av l).length=l.length * 2:=by
 induction l with
 |nil=>rfl
 |cons x l ih=>simp only [av,List.flatMap_cons,List.length_append,List.length_cons,List.length_nil] at ih ⊢;omega
theorem eT(l:List aM)(k:Nat)(h:k < l.length):(av l)[k * 2]?=some (.string l[k].1)∧(av l)[k * 2+1]?=some (.string l[k].2):=by
 induction l generalizing k with
 |nil=>exact absurd h (by simp)
 |cons x l ih=>
  cases k with
  |zero=>exact⟨rfl,rfl⟩
  |succ k=>
   have:=ih k (by simpa using h);have e1:(k+1) * 2=(k * 2)+2:=by omega
   have e2:av (x::l)=[.string x.1,.string x.2]++av l:=rfl;rw [e1,e2];simpa using this
def aA(w:World)(B g:Nat)(t:TypeId)(v:Value)(l:List aM):Prop:=
 Bk w g t #[v]∧w.ownsRow B 143 2 v l.length (av l)∧v.ownBlock≠some g
def ec(w:World)(A:Option Addr)(l:List aM):Prop:=
 ∀ k,(h:k < l.length)→∃ bb off,A=some ⟨bb,off,none⟩∧bb < w.heap.size∧w.cell? ⟨bb,off+k * 2,none⟩=some (.string l[k].1)∧w.cell? ⟨bb,off+k * 2+1,none⟩=some (.string l[k].2)
section
variable {S:Nat→Prop} {w w':World} {B g:Nat} {t:TypeId} {v:Value} {l:List aM} {A:Option Addr}
theorem aA.sm(h:aA w B g t v l)(hs:Sm S w w')(hg:¬S g)(hv:∀ b,v.ownBlock=some b→¬S b):aA w' B g t v l:=
 ⟨h.1.sm hs hg,ae h.2.1 hs hv,h.2.2⟩
theorem aA.no(h:aA w B g t v l)(hs:Sm No w w'):aA w' B g t v l:=h.sm hs (fun h=>h) (fun _ _ h=>h)
theorem aA.len(h:aA w B g t v l):∃ A c,v=.slice A l.length c:=by
 rcases aK h.2.1 with ⟨rfl,h0,_⟩|⟨b,cap,rfl,_⟩
 ·exact⟨none,0,by rw [h0]⟩
 ·exact⟨_,_,rfl⟩
theorem ec.sm(h:ec w A l)(hs:Sm S w w')(hA:∀ a,A=some a→¬S a.block):ec w' A l:=by
 intro k hk;obtain⟨bb,off,hA',hb,h1,h2⟩:=h k hk;have e:=hs.block bb hb (hA _ hA');exact⟨bb,off,hA',Nat.lt_of_lt_of_le hb hs.size,(World.cell?_of_block (w:=w) (a:=⟨bb,_,none⟩) e).trans h1,(World.cell?_of_block (w:=w) (a:=⟨bb,_,none⟩) e).trans h2⟩
end
def jr(l:List aM):Prop:=∀ x∈l,x.1.size≤1000000∧x.2.size≤1000000
theorem oV{cur add:List aM}{k:Nat}(h:k < add.length)(hx:oz add[k]=true)(hc:¬24≤cur.length):
 bh cur (add.drop k)=((bh (cur++[add[k]]) (add.drop (k+1))).1,(bh (cur++[add[k]]) (add.drop (k+1))).2.1+1,(bh (cur++[add[k]]) (add.drop (k+1))).2.2):=by
 rw [List.drop_eq_getElem_cons h,bh,if_neg (by simp [hx]),if_neg hc]
theorem Cs{cur add:List aM}{k:Nat}(h:k < add.length)(hx:oz add[k]=false):bh cur (add.drop k)=(cur,0,8):=by
 rw [List.drop_eq_getElem_cons h,bh,if_pos hx]
theorem zU{cur add:List aM}{k:Nat}(h:k < add.length)(hx:oz add[k]=true)(hc:24≤cur.length):bh cur (add.drop k)=(cur,0,3):=by
 rw [List.drop_eq_getElem_cons h,bh,if_neg (by simp [hx]),if_pos hc]
theorem jJ:(Tryz.prog.info? 143).map (fun i=>(i.zero,i.size,i.bytes))=some (some (.agg #[.string ⟨#[]⟩,.string ⟨#[]⟩]),2,32):=by kernel_rfl
def iH(g:Nat)(v0:Value):Nat→Prop:=fun b=>b=g∨v0.ownBlock=some b
def dQ(w:World)(v0 v:Value):Prop:=v.ownBlock=v0.ownBlock∨∃ b,v.ownBlock=some b∧w.heap.size≤b
def ED(w:World)(B g:Nat)(v0:Value)(cur add:List aM)(e:Ending)(w':World):Prop:=
 ∃ v,e=.returned (.tuple #[.int .i64 ((bh cur add).2.1:Int),.int .i64 (bh cur add).2.2])∧aA w' B g 214 v (bh cur add).1∧(bh cur add).1.length≤24∧Sm (iH g v0) w w'∧dQ w v0 v
def FQ(w:World)(B g:Nat)(v0:Value)(cur add:List aM)(i:Value)(wr:World):Prop:=
 ∃ (k:Nat) (v:Value) (l:List aM),k≤add.length∧i=.int .i64 k∧bh cur add=((bh l (add.drop k)).1,(bh l (add.drop k)).2.1+k,(bh l (add.drop k)).2.2)∧l.length≤24∧
   aA wr B g 214 v l∧Sm (iH g v0) w wr∧dQ w v0 v
theorem qO (w:World) (B g:Nat) (v0:Value) (cur add:List aM) (A:Option Addr) (c:Nat) (h0:aA w B g 214 v0 cur) (hcur:cur.length≤24) (hA:ec w A add)
 (hdis:0 < add.length→∀ a,A=some a→¬iH g v0 a.block) (hshort:jr add) (hadd:add.length≤1000000) (hB:B≤w.heap.size):
 Calls Tryz.prog 134 #[.pointer (some ⟨g,0,none⟩),.slice A add.length c] w (ED w B g v0 cur add):=by
 have H0:=aa (ab h0 (ab hA hdis));have HS:=aa hshort;clear h0 hA hdis hshort;go_in;go_wp2_with fail
 go_loopw [12] (fun i wr=>FQ w B g v0 cur add i wr) (fun i _=>add.length-(intOf i).toNat)
 case atStart=>exact⟨0,v0,cur,Nat.zero_le _,rfl,by simp,hcur,H0.out.1,Sm.refl _ _,Or.inl rfl⟩
 case round=>
  obtain⟨k,v,l,hk,rfl,hL,hl,hF,hs,hfo⟩:=hrel;have HL:=aa hL;have HF:=aa (ab hF (ab hs hfo));clear hL hF hs hfo;by_cases hlt:k < add.length
  ·obtain⟨bb,off,rfl,hbb,r0,r1⟩:=(H0.out.2.1.sm HF.out.2.1 (H0.out.2.2 (by omega))) k hlt;obtain⟨s0,s1⟩:=HS.out _ (List.getElem_mem hlt);obtain⟨nm,hnm⟩:∃ x,add[k].1=x:=⟨_,rfl⟩;obtain⟨vl,hvl⟩:∃ x,add[k].2=x:=⟨_,rfl⟩;rw [hnm] at r0 s0;rw [hvl] at r1 s1;obtain⟨f,hf⟩:=ai (Df nm.data.toList vl.data.toList);have hx:oz add[k]=f:=by unfold oz;rw [hnm,hvl];exact hf
   have HX:=aa (ab hx (ab hnm hvl));have HFF:=aa hf;clear hx hnm hvl hf;go_wp2_with fail;refine(lh HFF s0 s1 _).mono ?_;rintro e w1 ⟨rfl,hs1⟩;have hsm:=((Sm.refl No wr).alloc (.cells #[.string nm,.string vl] 143)).tt hs1;have hF1:=HF.out.1.no hsm;have hS1:=HF.out.2.1.trans hsm (fun _ _ h=>h.elim);have hfo:=HF.out.2.2;have hbx:=(Bk.new wr 143 #[.string nm,.string vl]).sm hs1 (fun h=>h)
   cases f
   ·have hend:bh cur add=(l,k,8):=by rw [HL.out,Cs hlt HX.out.1];simp
    have HE:=aa hend;clear hend;go_wp2_with fail;exact bodyPost_ret (v:=.tuple #[.int .i64 k,.int .i64 8]) (by simp [results,Tryz.results134,go_sem]) rfl
     ⟨v,by rw [HE.out],by rw [HE.out];exact hF1,by rw [HE.out];exact hl,hS1,hfo⟩
   ·obtain⟨A',c',rfl⟩:=hF1.len;have cg:=hF1.1.at 0 (v:=.slice A' l.length c') rfl;have zg:=hF1.1.fz 0;have d0:=hbx.at 0 (v:=.string nm) rfl;have d1:=hbx.at 1 (v:=.string vl) rfl;by_cases hfull:24≤l.length
    ·have hend:bh cur add=(l,k,3):=by rw [HL.out,zU hlt HX.out.1 hfull];simp
     have HE:=aa hend;clear hend;go_wp2_with fail;exact bodyPost_ret (v:=.tuple #[.int .i64 k,.int .i64 3]) (by simp [results,Tryz.results134,go_sem]) rfl
      ⟨_,by rw [HE.out],by rw [HE.out];exact hF1,by rw [HE.out];exact hl,hS1,hfo⟩
    ·have hstep:=oV hlt HX.out.1 hfull;have HST:=aa hstep;have hfull2:l.length < 24:=by omega
     clear hstep hfull;have HR:=aa (ab hF1 (ab hS1 hfo));have HOwn:=aa ((hF1.2.1.alloc (.cells #[.string nm,.string vl] 143)).drew);have HBlk:=aa (Bk.new w1 143 #[.string nm,.string vl]).drew;have HKb:=aa ((hF1.1.alloc (.cells #[.string nm,.string vl] 143)).drew);have HNe:=aa (show ¬(Value.slice A' l.length c').ownBlock=some g from hF1.2.2);have HBx:=aa ((hbx.alloc (.cells #[.string nm,.string vl] 143)).drew);have HNb:=aa (show ¬(Value.slice A' l.length c').ownBlock=some wr.heap.size from fun e=>by
      have:=(HF.out.1.2.1.lt _ e).2;omega)
     have HBB:=aa (show B≤((w1.alloc (.cells #[.string nm,.string vl] 143)).drew).heap.size by
      have:=hS1.size;simp;omega)
     have hgl:=hF1.1.lt;have hbl:=hbx.lt;clear hF1 hS1 hfo hsm;go_wp2_with fail
     go_region_law
      ((refine gk (by rfl) _ _ 91 143 (by rfl) Tryz.underlying91 _ 2 32 jJ rfl (by decide) (by decide) B l.length _ (av l) (by rfl) HOwn.out w1.heap.size #[.string nm,.string vl] (by rfl) HBlk.out rfl (by simp [Value.oneCell']) (by omega) HBB.out ?_;intro r cap w2 hown2 hs2 hr2;have hb2:=HKb.out.sm hs2 HNe.out;have cg2:=hb2.at 0 (v:=.slice A' l.length c') rfl;have zg2:=hb2.fz 0;have hbx2:=HBx.out.sm hs2 HNb.out;have d2:=hbx2.at 0 (v:=.string nm) rfl;have d3:=hbx2.at 1 (v:=.string vl) rfl))
     all_goals
      have hne:r≠g:=by
       rcases hr2 with e|e
       ·rintro rfl;exact HNe.out e
       ·simp at e;omega
      have hs3:=(Sm.refl (fun x=>x=g) w2).set1 0 (.slice (some ⟨r,0,none⟩) (l.length+1) cap);have hb3:Bk (w2.setCell ⟨g,0,none⟩ (.slice (some ⟨r,0,none⟩) (l.length+1) cap)) g 214 #[.slice (some ⟨r,0,none⟩) (l.length+1) cap]:=(hb2.set 0 _).eq (by rfl);have ho3:=ae hown2 hs3 (fun b hb=>by injection hb with hb;subst hb;exact hne);have hF3:aA (w2.setCell ⟨g,0,none⟩ (.slice (some ⟨r,0,none⟩) (l.length+1) cap)) B g 214 (.slice (some ⟨r,0,none⟩) (l.length+1) cap) (l++[add[k]]):=
       ⟨hb3,by rw [jn,HX.out.2.1,HX.out.2.2,List.length_append];exact ho3,by simp [Value.ownBlock];exact hne⟩
      have hS2:=((HR.out.2.1.alloc (.cells #[.string nm,.string vl] 143)).drew).trans hs2 (fun b hb e=>by
       rcases HR.out.2.2 with f|⟨q,f,hq⟩
       ·exact Or.inr (f ▸ e)
       ·rw [f] at e;injection e with e;omega)
      have hS3:=hS2.trans hs3 (fun b _ e=>Or.inl e);have hf3:dQ w v0 (.slice (some ⟨r,0,none⟩) (l.length+1) cap):=by
       rcases hr2 with e|e
       ·rcases HR.out.2.2 with f|⟨q,f,hq⟩
        ·exact Or.inl (by rw [←f,e];rfl)
        ·rw [e] at f;injection f with f;exact Or.inr ⟨r,rfl,by omega⟩
       ·have:=HR.out.2.1.size;simp at e;exact Or.inr ⟨r,rfl,by omega⟩
      go_wp2_with fail;exact⟨⟨k+1,_,l++[add[k]],by omega,by go_num,by rw [HL.out,HST.out];simp;omega,by simp;omega,hF3,hS3,hf3⟩,by simp [intOf];omega⟩
  ·have hend:bh cur add=(l,add.length,0):=by
    have e:k=add.length:=by omega
    rw [HL.out,e,List.drop_length];simp [bh]
   have HE:=aa hend;clear hend;go_wp2_with fail;exact bodyPost_ret (v:=.tuple #[.int .i64 add.length,.int .i64 0]) (by simp [results,Tryz.results134,go_sem]) rfl
    ⟨v,by rw [HE.out],by rw [HE.out];exact HF.out.1,by rw [HE.out];exact hl,HF.out.2.1,HF.out.2.2⟩
def C1(w:World)(add:List aM)(e:Ending)(w':World):Prop:=
 ∃ g v,e=.returned (.pointer (some ⟨g,0,none⟩))∧w.heap.size≤g∧aA w' w.heap.size g 214 v (bh [] add).1∧(bh [] add).1.length≤24∧Sm No w w'
theorem wz(w:World)(add:List aM)(A:Option Addr)(c:Nat)(hA:ec w A add)(hshort:jr add)(hadd:add.length≤1000000):
 Calls Tryz.prog 112 #[.slice A add.length c] w (C1 w add):=by
 have hs0:=(Sm.refl No w).alloc (.cells #[.slice none 0 0] 214);have HA:=aa hA;have h0:aA (w.alloc (.cells #[.slice none 0 0] 214)) w.heap.size w.heap.size 214 (.slice none 0 0) []:=
  ⟨Bk.new w _ _,World.ownsRow_nil _ _ _ 2,by simp [Value.ownBlock]⟩
 have hcon:=qO (w.alloc (.cells #[.slice none 0 0] 214)) w.heap.size w.heap.size (.slice none 0 0) [] add A c h0 (by simp) (hA.sm hs0 (fun _ _ h=>h)) (fun hl a ha=>by
  obtain⟨bb,off,e,hb,_⟩:=HA.out 0 hl;rw [e] at ha;injection ha with ha;subst ha;rintro(e|e)
  ·dsimp only at e;omega
  ·simp [Value.ownBlock] at e) hshort hadd (by simp)
 have HC:=aa hcon;have HS:=aa hs0;clear hA h0 hcon hs0;go_in;go_wp2_with fail;refine HC.out.mono ?_;rintro e w2 ⟨v,rfl,hF,hl,hs,hf⟩;have HF:=aa (ab hF (ab hl hs));clear hF hl hs hf;go_wp2_with fail;go_ret;exact⟨w.heap.size,v,rfl,Nat.le_refl _,HF.out.1,HF.out.2.1,HS.out.trans HF.out.2.2 (fun b hb e=>by
  rcases e with e|e
  ·omega
  ·simp [Value.ownBlock] at e)⟩
def ak(l:List aM)(name:ByteArray):List ByteArray:=(l.filter fun x=>dp x.1.data.toList name.data.toList).map (·.2)
def qk(w:World)(B:Nat)(v:Value)(l:List ByteArray):Prop:=w.ownsRow B 9 1 v l.length (l.map Value.string)
def jy(w:World)(l:List aM)(name:ByteArray)(e:Ending)(w':World):Prop:=∃ v,e=.returned v∧qk w' w.heap.size v (ak l name)∧Sm No w w'
def E2(w:World)(l:List aM)(name:ByteArray)(acc i:Value)(wr:World):Prop:=
 ∃ (k:Nat),k≤l.length∧i=.int .i64 k∧qk wr w.heap.size acc (ak (l.take k) name)∧Sm No w wr
theorem qo(l:List aM)(name:ByteArray)(k:Nat)(h:k < l.length):ak (l.take (k+1)) name=if dp l[k].1.data.toList name.data.toList=true then ak (l.take k) name++[l[k].2] else ak (l.take k) name:=by
 unfold ak;rw [List.take_succ_eq_append_getElem h,List.filter_append]
 cases hq:dp l[k].1.data.toList name.data.toList<;>simp [hq]
theorem aA.row{w:World}{B g:Nat}{t:TypeId}{v:Value}{l:List aM}(h:aA w B g t v l):∃ A c,v=.slice A l.length c∧ec w A l:=by
 rcases aK h.2.1 with ⟨rfl,h0,_⟩|⟨b,cap,rfl,_,_,hb,_,hc,_⟩
 ·exact⟨none,0,by rw [h0],fun k hk=>absurd hk (by omega)⟩
 ·refine⟨_,_,rfl,fun k hk=> ?_⟩;obtain⟨h1,h2⟩:=eT l k hk;exact⟨b,0,rfl,hb,by simpa using hc _ _ h1,by simpa using hc _ _ h2⟩
theorem jY{s t:ByteArray}{r:Bool}(h:Hid (dp s.data.toList t.data.toList=r))(hs:s.size≤1000000)(ht:t.size≤1000000)(w:World):
 Calls Tryz.prog 165 #[.string s,.string t] w fun e w'=>e=.returned (.bool r)∧Sm No w w':=by
 rw [←h.out];exact sJ s t hs ht w
theorem gJ(w:World)(B g:Nat)(v:Value)(l:List aM)(name:ByteArray)(hF:aA w B g 214 v l)(hl:l.length≤24)(hshort:jr l)(hn:name.size≤1000000):
 Calls Tryz.prog 162 #[.pointer (some ⟨g,0,none⟩),.string name] w (jy w l name):=by
 obtain⟨A,c,rfl,hR⟩:=hF.row;have cg:=hF.1.at 0 (v:=.slice A l.length c) rfl;have HR:=aa hR;have HS:=aa hshort;clear hR hshort hF;go_in;go_wp2_with fail
 go_loopw [5,15] (fun acc i wr=>E2 w l name acc i wr) (fun _ i _=>l.length-(intOf i).toNat)
 case atStart=>exact⟨0,Nat.zero_le _,rfl,World.ownsRow_nil _ _ _ 1,Sm.refl _ _⟩
 case round=>
  obtain⟨k,hk,rfl,hO,hs⟩:=hrel;have HO:=aa (ab hO hs);clear hO hs;by_cases hlt:k < l.length
  ·obtain⟨bb,off,hA,hbb,r0,r1⟩:=(HR.out.sm HO.out.2 (fun _ _ h=>h)) k hlt;subst hA;obtain⟨s0,s1⟩:=HS.out _ (List.getElem_mem hlt);have hsn:=qo l name k hlt;obtain⟨nm,hnm⟩:∃ x,l[k].1=x:=⟨_,rfl⟩;obtain⟨vl,hvl⟩:∃ x,l[k].2=x:=⟨_,rfl⟩;rw [hnm] at r0 s0 hsn;rw [hvl] at r1 hsn;obtain⟨f,hf⟩:=ai (dp nm.data.toList name.data.toList);rw [hf] at hsn;have HF:=aa hf;have HN:=aa hsn;clear hnm hvl hf hsn;go_wp2_with fail;refine(jY HF s0 hn _).mono ?_;rintro e w1 ⟨rfl,hs1⟩;have hsm:=((Sm.refl No wr).alloc (.cells #[.string nm,.string vl] 143)).tt hs1;have hS1:=HO.out.2.tt hsm;have hO1:qk w1 w.heap.size u5 (ak (l.take k) name):=ae HO.out.1 hsm (fun _ _ h=>h);have hbx:=(Bk.new wr 143 #[.string nm,.string vl]).sm hs1 (fun h=>h)
   cases f
   ·have HX:=aa (ab hS1 hO1);clear hsm hS1 hO1 hs1;go_wp2_with fail;exact⟨⟨k+1,by omega,by go_num,by rw [HN.out];exact HX.out.2,HX.out.1⟩,by simp [intOf];omega⟩
   ·have d1:=hbx.at 1 (v:=.string vl) rfl;have hkl:(ak (l.take k) name).length≤1000000:=by
     have h1:=List.length_filter_le (fun x:aM=>dp x.1.data.toList name.data.toList) (l.take k);have h2:=List.length_take_le k l;unfold ak;rw [List.length_map];omega
    have hbb1:w.heap.size≤w1.heap.size:=hS1.size;have HX:=aa (ab hS1 hO1);clear hsm hS1 hO1 hs1;go_wp2_with (refine aY rfl _ _ 119 9 rfl Tryz.underlying119 _ 1 16 eK rfl (by decide) (by decide) w.heap.size _ u5 _ rfl (World.ownsRow.alloc HX.out.2 _) w1.heap.size #[.string vl] rfl (Bk.new w1 _ _) rfl (by simp [Value.oneCell']) hkl (by simp;omega) ?_;intro v' w2 hown2 hs2 hv2);have hO3:qk w2 w.heap.size v' (ak (l.take (k+1)) name):=by
     rw [HN.out];unfold qk;simpa using hown2
    have hS3:Sm No w w2:=(HX.out.1.alloc (.cells #[.string vl] 9)).trans hs2 (fun b hb e=>by
     have:=(World.ownsRow.lt HX.out.2 b e).1;omega)
    exact⟨⟨k+1,by omega,by go_num,hO3,hS3⟩,by simp [intOf];omega⟩
  ·have ha:l.take k=l:=List.take_of_length_le (by omega);have HA:=aa ha;clear ha;go_wp2_with fail;go_ret;exact⟨_,rfl,by have:=HO.out.1;rw [HA.out] at this;exact this,HO.out.2⟩
def jg:List UInt8:=[44,32]
def ee(l:List aM)(name:ByteArray):List UInt8:=Lib.join ((ak l name).map (·.data.toList)) jg
theorem DE(xs:List ByteArray)(h:∀ x∈xs,x.size≤1000000):Lib.lens (xs.map (·.data.toList))≤1000000 * xs.length:=by
 induction xs with
 |nil=>simp [Lib.lens]
 |cons x xs ih=>
  have h1:=ih (fun y hy=>h y (List.mem_cons_of_mem _ hy));have h2:=h x (List.mem_cons_self ..);have h3:x.data.toList.length=x.size:=by simp
  simp only [Lib.lens,List.map_cons,List.sum_cons,List.length_cons] at h1 ⊢;omega
theorem DX(xs:List ByteArray)(h:∀ x∈xs,x.size≤1000000)(hl:xs.length≤1000):(Lib.join (xs.map (·.data.toList)) jg).length≤140737488355328:=by
 cases xs with
 |nil=>simp [Lib.join_nil]
 |cons x xs=>
  rw [List.map_cons,Lib.join_length];have:=DE (x::xs) h;simp only [List.map_cons,List.length_cons,List.length_map] at this hl ⊢;have h2:jg.length=2:=rfl;rw [h2];omega
theorem od{l:List aM}{name:ByteArray}(h:jr l):∀ x∈ak l name,x.size≤1000000:=by
 intro x hx;unfold ak at hx;obtain⟨y,hy,rfl⟩:=List.mem_map.mp hx;exact(h y (List.mem_filter.mp hy).1).2
theorem iE(l:List aM)(name:ByteArray):(ak l name).length≤l.length:=by
 unfold ak;rw [List.length_map];exact List.length_filter_le _ _
theorem Bu(w:World)(B:Nat)(v:Value)(xs:List ByteArray)(hO:qk w B v xs)(h:∀ x∈xs,x.size≤1000000)(hl:xs.length≤1000):
 Calls Tryz.prog 109 #[v,.string ⟨#[44,32]⟩] w fun e w'=>e=.returned (.string ⟨(Lib.join (xs.map (·.data.toList)) jg).toArray⟩)∧Sm No w w':=by
 rcases aK hO with ⟨rfl,h0,_⟩|⟨b,cap,rfl,_,_,hb,hcap,hc,_⟩
 ·have:xs=[]:=List.eq_nil_of_length_eq_zero h0;subst this;exact(Tryz.strings_Join_none none 0 _ w).mono fun e w' ⟨he,hw⟩=>⟨he,hw ▸ Sm.refl _ _⟩
 ·exact(Tryz.strings_Join b 0 cap xs ⟨#[44,32]⟩ w (fun j x hj=>by
   rw [Nat.zero_add];exact hc j _ (by simp [hj])) hb (by omega) hcap (DX xs h hl)).mono fun e w' ⟨he,hB⟩=>⟨he,Sm.of_below hB No⟩
theorem xE(w:World)(B g:Nat)(v:Value)(l:List aM)(name:ByteArray)(hF:aA w B g 214 v l)(hl:l.length≤24)(hshort:jr l)(hn:name.size≤1000000):
 Calls Tryz.prog 131 #[.pointer (some ⟨g,0,none⟩),.string name] w fun e w'=>e=.returned (.string ⟨(ee l name).toArray⟩)∧Sm No w w':=by
 have HV:=aa (gJ w B g v l name hF hl hshort hn);have HX:=aa (ab (od (name:=name) hshort) (iE l name));clear hF hshort;obtain⟨r,hr⟩:=ai ((⟨(ee l name).toArray⟩:ByteArray));have HJ:=aa (fun (w:World) (B:Nat) (v:Value) (hO:qk w B v (ak l name))=>hr ▸ Bu w B v _ hO HX.out.1 (by have:=HX.out.2;omega));rw [hr];clear hr;go_in;go_wp2_with fail;refine HV.out.mono ?_;rintro e w1 ⟨vs,rfl,hO,hs⟩;have HO:=aa (ab hO hs);clear hO hs;go_wp2_with fail;refine(HJ.out _ _ _ HO.out.1).mono ?_;rintro e w2 ⟨rfl,hs2⟩;go_wp2_with fail;go_ret;exact⟨rfl,HO.out.2.tt hs2⟩
def kA:ByteArray:=⟨#[97]⟩
def kB:ByteArray:=⟨#[98]⟩
end Go.Proofs.YtadcjgopaadfjaaGreatDoor
