import Derived.Test.YtcflkcbogofgbaaGreatDoorQF
import Derived.Test.YtcflkcbogofgbaaGreatDoorQO
import Derived.Deep.RegionLaw
set_option maxHeartbeats 4000000
namespace Go.Proofs.YtcflkcbogofgbaaGreatDoor
open Go.RowKit Go.Proofs
theorem AO{l:List UInt8}{c:UInt8}{k:Nat}(h0:∀ j,j < k→l[j]?≠some c)(h1:l[k]?=some c):Lib.indexByte l c=k:=by
 rcases bM l c with h|⟨i,h⟩
 ·exact absurd h1 (Lib.indexByte_none h k)
 ·obtain⟨a,b⟩:=Lib.indexByte_some h;have:i=k:=by
   rcases Nat.lt_trichotomy i k with g|g|g
   ·exact absurd a (h0 i g)
   ·exact g
   ·exact absurd h1 (b k g)
  rw [h,this]
theorem Ch{l:List UInt8}{c:UInt8}(h0:∀ j,j < l.length→l[j]?≠some c):Lib.indexByte l c= -1:=by
 rcases bM l c with h|⟨i,h⟩
 ·exact h
 ·exact absurd (Lib.indexByte_some h).1 (h0 i (kI l c i h))
theorem yC{n v:ByteArray}{r:Bool}(h:Hid (vf n.data.toList v.data.toList=r))(hn:n.size≤1000000)(hv:v.size≤1000000)(w:World):
 Calls Tryz.prog 136 #[.agg #[.string n,.string v]] w fun e w'=>e=.returned (.bool r)∧Sm No w w':=by
 rw [←h.out];exact FK n v hn hv w
theorem uC{l:List UInt8}(h:256 < l.length):aL l=(9,[],[]):=by unfold aL;rw [if_pos h]
theorem sY{l:List UInt8}(h:¬256 < l.length)(h2:Lib.indexByte l 58= -1):aL l=(8,[],[]):=by unfold aL;rw [if_neg h,if_pos h2]
theorem yM{l:List UInt8}{i:Nat}(h:¬256 < l.length)(h2:Lib.indexByte l 58=i):aL l=if vf (l.take i) (aw (l.drop (i+1)))=true then (0,l.take i,aw (l.drop (i+1))) else (8,[],[]):=by
 unfold aL;rw [if_neg h,if_neg (by omega),h2];rfl
def F7(s:ByteArray)(i:Value):Prop:=∃ k:Nat,k≤s.size∧i=.int .i64 k∧∀ j,j < k→s.data.toList[j]?≠some 58
theorem ou(s:ByteArray)(hs:s.size≤1000000)(w:World):
 Calls Tryz.prog 174 #[.string s] w fun e w'=>e=.returned (iB (aL s.data.toList))∧Sm No w w':=by
 have hlen:s.data.toList.length=s.size:=by simp
 by_cases h1:256 < s.size
 ·rw [uC (by omega)];clear hlen;unfold iB qP;go_in;go_wp2_with fail;exact bodyPost_ret (v:=.tuple #[.agg #[.string ⟨#[]⟩,.string ⟨#[]⟩],.int .i64 9]) (by simp [results,Tryz.results174,go_sem]) rfl ⟨rfl,(Sm.refl No w).alloc _⟩
 ·have HL:=ns hlen;clear hlen;have hb0:=Bk.new w 129 #[.string ⟨#[]⟩,.string ⟨#[]⟩];obtain⟨w0,hw⟩:∃ w0,w.alloc (.cells #[.string ⟨#[]⟩,.string ⟨#[]⟩] 129)=w0:=⟨_,rfl⟩;have hs0:=(Sm.refl No w).alloc (.cells #[.string ⟨#[]⟩,.string ⟨#[]⟩] 129);rw [hw] at hb0 hs0;have HW:=ns hw;clear hw;obtain⟨P,hP⟩:=Iu (aL s.data.toList);rw [hP];have HP:=ns hP;clear hP;go_in;go_wp2_with fail;rw [HW.out]
  go_loop [4] (fun i=>F7 s i) (fun i=>s.size-(intOf i).toNat)
  case atStart=>exact⟨0,Nat.zero_le _,rfl,fun j hj=>absurd hj (by omega)⟩
  case round=>
   obtain⟨k,hk,rfl,hno⟩:=hrel;have HN:=ns hno;clear hno;by_cases hlt:k < s.size
   ·by_cases hq:s[k]=58
    ·have h2:Lib.indexByte s.data.toList 58=k:=AO HN.out (by rw [←hq];simp [hlt,ByteArray.getElem_eq_getElem_data]);have hq2:((s[k].toNat:Int)==58)=true:=by simp [hq]
     have hp:=yM (by rw [HL.out];exact h1) h2;rw [HP.out] at hp;have hA:(s.extract 0 k).data.toList=s.data.toList.take k:=by rw [Lib.extract_data];simp
     have hB:(s.extract (k+1) s.size).data.toList=s.data.toList.drop (k+1):=by rw [Lib.extract_data,List.take_of_length_le (by simp)]
     rw [←hA,←hB] at hp;have hr:=fQ (s.extract (k+1) s.size).data.toList;have hR:(⟨(aw (s.extract (k+1) s.size).data.toList).toArray⟩:ByteArray).data.toList=aw (s.extract (k+1) s.size).data.toList:=rfl;have hrs:(⟨(aw (s.extract (k+1) s.size).data.toList).toArray⟩:ByteArray).size≤1000000:=by
      show (aw (s.extract (k+1) s.size).data.toList).toArray.size≤1000000;rw [hB] at hr;simp only [List.size_toArray,hB];simp at hr;omega
     have hbs:(s.extract 0 k).size≤1000000:=by simp;omega
     have hbs2:(s.extract (k+1) s.size).size≤1000000:=by simp;omega
     obtain⟨r,hr'⟩:=Iu ((⟨(aw (s.extract (k+1) s.size).data.toList).toArray⟩:ByteArray));rw [hr'] at hR hrs;rw [←hR] at hp;have HR:=ns hr';have HPP:=ns hp;have hk2:k+1≤s.size:=hlt;have b1:(0:Int)≤(k:Int):=by omega
     have b2:(k:Int)≤(s.size:Int):=by omega
     have b3:(0:Int)≤(k:Int)+1:=by omega
     have b4:(k:Int)+1≤(s.size:Int):=by omega
     have e1:IntKind.i64.wrap ((k:Int)+1)=(k:Int)+1:=IntWalk.i64_in _ (by omega);have e2:((k:Int)+1).toNat=k+1:=by omega
     clear hq h2 hp hA hB hr hR hr';go_wp2_with fail
     go_region_held3 (fun w'=>True) (exact trivial)
      ((go_at_call 83;(with_reducible refine(lT HR hbs2 _).mono ?_);rintro e w4 ⟨rfl,rfl⟩))
     all_goals
      have hb1:=(hb0.alloc (.cells #[.string (s.extract 0 k),.string r] 129)).drew;have hb2:=(Bk.new w0 129 #[.string (s.extract 0 k),.string r]).drew;have hs1:=(hs0.alloc (.cells #[.string (s.extract 0 k),.string r] 129)).drew;clear e1 e2;generalize (w0.alloc (.cells #[.string (s.extract 0 k),.string r] 129)).drew=w1 at hb1 hb2 hs1 ⊢;obtain⟨f,hf⟩:=Iu (vf (s.extract 0 k).data.toList r.data.toList);have HF:=ns hf;clear hf;have a0:=hb2.at 0 (v:=.string (s.extract 0 k)) rfl;have a1:=hb2.at 1 (v:=.string r) rfl;go_wp2_with fail;refine(yC HF hbs hrs _).mono ?_;rintro e w3 ⟨rfl,hs4⟩;have hb3:=hb1.sm hs4 (fun h=>h);have hb4:=hb2.sm hs4 (fun h=>h);have hs5:=hs1.tt hs4;have c0:=hb3.at 0 (v:=.string ⟨#[]⟩) rfl;have c1:=hb3.at 1 (v:=.string ⟨#[]⟩) rfl;have z0:=hb3.fz 0;have z1:=hb3.fz 1
      cases f
      ·go_wp2_with fail;rw [HPP.out,HF.out];exact bodyPost_ret (v:=.tuple #[.agg #[.string ⟨#[]⟩,.string ⟨#[]⟩],.int .i64 8]) (by simp [results,Tryz.results174,go_sem,c0,c1]) rfl
        ⟨rfl,((hs5).setN (Nat.le_refl _) _ _).setN (Nat.le_refl _) _ _⟩
      ·have d0:=hb4.at 0 (v:=.string (s.extract 0 k)) rfl;have d1:=hb4.at 1 (v:=.string r) rfl;go_wp2_with fail;rw [HPP.out,HF.out];exact bodyPost_ret (v:=.tuple #[.agg #[.string (s.extract 0 k),.string r],.int .i64 0]) (by simp [results,Tryz.results174,go_sem,c0,c1]) rfl
        ⟨rfl,((hs5).setN (Nat.le_refl _) _ _).setN (Nat.le_refl _) _ _⟩
    ·have hq2:((s[k].toNat:Int)==58)=false:=by
      simp;intro h;exact hq (UInt8.toNat_inj.mp (by have:(58:UInt8).toNat=58:=rfl;omega))
     have HN2:=ns (show ∀ j,j < k+1→s.data.toList[j]?≠some 58 from fun j hj e=>by
      by_cases g:j < k
      ·exact HN.out j g e
      ·obtain rfl:j=k:=by omega
       exact hq (by simpa [hlt,ByteArray.getElem_eq_getElem_data] using e))
     clear hq;go_wp2_with fail;exact⟨⟨k+1,by omega,by go_num,HN2.out⟩,by simp [intOf];omega⟩
   ·have h2:Lib.indexByte s.data.toList 58= -1:=Ch (fun j hj=>HN.out j (by rw [HL.out] at hj;omega));have hp:=sY (by rw [HL.out];exact h1) h2;rw [HP.out] at hp;have HPP:=ns hp;have c0:=hb0.at 0 (v:=.string ⟨#[]⟩) rfl;have c1:=hb0.at 1 (v:=.string ⟨#[]⟩) rfl;have z0:=hb0.fz 0;have z1:=hb0.fz 1;clear h2 hp;go_wp2_with fail;rw [HPP.out];exact bodyPost_ret (v:=.tuple #[.agg #[.string ⟨#[]⟩,.string ⟨#[]⟩],.int .i64 8]) (by simp [results,Tryz.results174,go_sem,c0,c1]) rfl
     ⟨rfl,((hs0).setN (Nat.le_refl _) _ _).setN (Nat.le_refl _) _ _⟩
abbrev aJ:=ByteArray × ByteArray
def ao(l:List aJ):List Value:=l.flatMap fun x=>[.string x.1,.string x.2]
def ny(x:aJ):Bool:=vf x.1.data.toList x.2.data.toList
def aY:List aJ→List aJ→List aJ × Nat × Int
 |cur,[]=>(cur,0,0)
 |cur,x::xs=>if ny x=false then (cur,0,8) else if 24≤cur.length then (cur,0,3) else ((aY (cur++[x]) xs).1,(aY (cur++[x]) xs).2.1+1,(aY (cur++[x]) xs).2.2)
theorem fe(l:List aJ)(x:aJ):ao (l++[x])=ao l++[.string x.1,.string x.2]:=by simp [ao]
theorem ew(l:List aJ):(ao l).length=l.length * 2:=by
 induction l with
 |nil=>rfl
 |cons x l ih=>simp only [ao,List.flatMap_cons,List.length_append,List.length_cons,List.length_nil] at ih ⊢;omega
theorem fg(l:List aJ)(k:Nat)(h:k < l.length):(ao l)[k * 2]?=some (.string l[k].1)∧(ao l)[k * 2+1]?=some (.string l[k].2):=by
 induction l generalizing k with
 |nil=>exact absurd h (by simp)
 |cons x l ih=>
  cases k with
  |zero=>exact⟨rfl,rfl⟩
  |succ k=>
   have:=ih k (by simpa using h);have e1:(k+1) * 2=(k * 2)+2:=by omega
   have e2:ao (x::l)=[.string x.1,.string x.2]++ao l:=rfl;rw [e1,e2];simpa using this
def aD(w:World)(B g:Nat)(t:TypeId)(v:Value)(l:List aJ):Prop:=
 Bk w g t #[v]∧w.ownsRow B 129 2 v l.length (ao l)∧v.ownBlock≠some g
def dM(w:World)(A:Option Addr)(l:List aJ):Prop:=
 ∀ k,(h:k < l.length)→∃ bb off,A=some ⟨bb,off,none⟩∧bb < w.heap.size∧w.cell? ⟨bb,off+k * 2,none⟩=some (.string l[k].1)∧w.cell? ⟨bb,off+k * 2+1,none⟩=some (.string l[k].2)
section
variable {S:Nat→Prop} {w w':World} {B g:Nat} {t:TypeId} {v:Value} {l:List aJ} {A:Option Addr}
theorem aD.sm(h:aD w B g t v l)(hs:Sm S w w')(hg:¬S g)(hv:∀ b,v.ownBlock=some b→¬S b):aD w' B g t v l:=
 ⟨h.1.sm hs hg,aa h.2.1 hs hv,h.2.2⟩
theorem aD.no(h:aD w B g t v l)(hs:Sm No w w'):aD w' B g t v l:=h.sm hs (fun h=>h) (fun _ _ h=>h)
theorem aD.len(h:aD w B g t v l):∃ A c,v=.slice A l.length c:=by
 rcases aR h.2.1 with ⟨rfl,h0,_⟩|⟨b,cap,rfl,_⟩
 ·exact⟨none,0,by rw [h0]⟩
 ·exact⟨_,_,rfl⟩
theorem dM.sm(h:dM w A l)(hs:Sm S w w')(hA:∀ a,A=some a→¬S a.block):dM w' A l:=by
 intro k hk;obtain⟨bb,off,hA',hb,h1,h2⟩:=h k hk;have e:=hs.block bb hb (hA _ hA');exact⟨bb,off,hA',Nat.lt_of_lt_of_le hb hs.size,(World.cell?_of_block (w:=w) (a:=⟨bb,_,none⟩) e).trans h1,(World.cell?_of_block (w:=w) (a:=⟨bb,_,none⟩) e).trans h2⟩
end
def gK(l:List aJ):Prop:=∀ x∈l,x.1.size≤1000000∧x.2.size≤1000000
theorem ma{cur add:List aJ}{k:Nat}(h:k < add.length)(hx:ny add[k]=true)(hc:¬24≤cur.length):
 aY cur (add.drop k)=((aY (cur++[add[k]]) (add.drop (k+1))).1,(aY (cur++[add[k]]) (add.drop (k+1))).2.1+1,(aY (cur++[add[k]]) (add.drop (k+1))).2.2):=by
 rw [List.drop_eq_getElem_cons h,aY,if_neg (by simp [hx]),if_neg hc]
theorem sW{cur add:List aJ}{k:Nat}(h:k < add.length)(hx:ny add[k]=false):aY cur (add.drop k)=(cur,0,8):=by
 rw [List.drop_eq_getElem_cons h,aY,if_pos hx]
theorem pO{cur add:List aJ}{k:Nat}(h:k < add.length)(hx:ny add[k]=true)(hc:24≤cur.length):aY cur (add.drop k)=(cur,0,3):=by
 rw [List.drop_eq_getElem_cons h,aY,if_neg (by simp [hx]),if_pos hc]
theorem eS:(Tryz.prog.info? 129).map (fun i=>(i.zero,i.size,i.bytes))=some (some (.agg #[.string ⟨#[]⟩,.string ⟨#[]⟩]),2,32):=by kernel_rfl
def dY(g:Nat)(v0:Value):Nat→Prop:=fun b=>b=g∨v0.ownBlock=some b
def cI(w:World)(v0 v:Value):Prop:=v.ownBlock=v0.ownBlock∨∃ b,v.ownBlock=some b∧w.heap.size≤b
def EK(w:World)(B g:Nat)(v0:Value)(cur add:List aJ)(e:Ending)(w':World):Prop:=
 ∃ v,e=.returned (.tuple #[.int .i64 ((aY cur add).2.1:Int),.int .i64 (aY cur add).2.2])∧aD w' B g 195 v (aY cur add).1∧(aY cur add).1.length≤24∧Sm (dY g v0) w w'∧cI w v0 v
def GH(w:World)(B g:Nat)(v0:Value)(cur add:List aJ)(i:Value)(wr:World):Prop:=
 ∃ (k:Nat) (v:Value) (l:List aJ),k≤add.length∧i=.int .i64 k∧aY cur add=((aY l (add.drop k)).1,(aY l (add.drop k)).2.1+k,(aY l (add.drop k)).2.2)∧l.length≤24∧
   aD wr B g 195 v l∧Sm (dY g v0) w wr∧cI w v0 v
theorem qU (w:World) (B g:Nat) (v0:Value) (cur add:List aJ) (A:Option Addr) (c:Nat) (h0:aD w B g 195 v0 cur) (hcur:cur.length≤24) (hA:dM w A add)
 (hdis:0 < add.length→∀ a,A=some a→¬dY g v0 a.block) (hshort:gK add) (hadd:add.length≤1000000) (hB:B≤w.heap.size):
 Calls Tryz.prog 112 #[.pointer (some ⟨g,0,none⟩),.slice A add.length c] w (EK w B g v0 cur add):=by
 have H0:=ns (BT h0 (BT hA hdis));have HS:=ns hshort;clear h0 hA hdis hshort;go_in;go_wp2_with fail
 go_loopw [12] (fun i wr=>GH w B g v0 cur add i wr) (fun i _=>add.length-(intOf i).toNat)
 case atStart=>exact⟨0,v0,cur,Nat.zero_le _,rfl,by simp,hcur,H0.out.1,Sm.refl _ _,Or.inl rfl⟩
 case round=>
  obtain⟨k,v,l,hk,rfl,hL,hl,hF,hs,hfo⟩:=hrel;have HL:=ns hL;have HF:=ns (BT hF (BT hs hfo));clear hL hF hs hfo;by_cases hlt:k < add.length
  ·obtain⟨bb,off,rfl,hbb,r0,r1⟩:=(H0.out.2.1.sm HF.out.2.1 (H0.out.2.2 (by omega))) k hlt;obtain⟨s0,s1⟩:=HS.out _ (List.getElem_mem hlt);obtain⟨nm,hnm⟩:∃ x,add[k].1=x:=⟨_,rfl⟩;obtain⟨vl,hvl⟩:∃ x,add[k].2=x:=⟨_,rfl⟩;rw [hnm] at r0 s0;rw [hvl] at r1 s1;obtain⟨f,hf⟩:=Iu (vf nm.data.toList vl.data.toList);have hx:ny add[k]=f:=by unfold ny;rw [hnm,hvl];exact hf
   have HX:=ns (BT hx (BT hnm hvl));have HFF:=ns hf;clear hx hnm hvl hf;go_wp2_with fail;refine(mg HFF s0 s1 _).mono ?_;rintro e w1 ⟨rfl,hs1⟩;have hsm:=((Sm.refl No wr).alloc (.cells #[.string nm,.string vl] 129)).tt hs1;have hF1:=HF.out.1.no hsm;have hS1:=HF.out.2.1.trans hsm (fun _ _ h=>h.elim);have hfo:=HF.out.2.2;have hbx:=(Bk.new wr 129 #[.string nm,.string vl]).sm hs1 (fun h=>h)
   cases f
   ·have hend:aY cur add=(l,k,8):=by rw [HL.out,sW hlt HX.out.1];simp
    have HE:=ns hend;clear hend;go_wp2_with fail;exact bodyPost_ret (v:=.tuple #[.int .i64 k,.int .i64 8]) (by simp [results,Tryz.results112,go_sem]) rfl
     ⟨v,by rw [HE.out],by rw [HE.out];exact hF1,by rw [HE.out];exact hl,hS1,hfo⟩
   ·obtain⟨A',c',rfl⟩:=hF1.len;have cg:=hF1.1.at 0 (v:=.slice A' l.length c') rfl;have zg:=hF1.1.fz 0;have d0:=hbx.at 0 (v:=.string nm) rfl;have d1:=hbx.at 1 (v:=.string vl) rfl;by_cases hfull:24≤l.length
    ·have hend:aY cur add=(l,k,3):=by rw [HL.out,pO hlt HX.out.1 hfull];simp
     have HE:=ns hend;clear hend;go_wp2_with fail;exact bodyPost_ret (v:=.tuple #[.int .i64 k,.int .i64 3]) (by simp [results,Tryz.results112,go_sem]) rfl
      ⟨_,by rw [HE.out],by rw [HE.out];exact hF1,by rw [HE.out];exact hl,hS1,hfo⟩
    ·have hstep:=ma hlt HX.out.1 hfull;have HST:=ns hstep;have hfull2:l.length < 24:=by omega
     clear hstep hfull;have HR:=ns (BT hF1 (BT hS1 hfo));have HOwn:=ns ((hF1.2.1.alloc (.cells #[.string nm,.string vl] 129)).drew);have HBlk:=ns (Bk.new w1 129 #[.string nm,.string vl]).drew;have HKb:=ns ((hF1.1.alloc (.cells #[.string nm,.string vl] 129)).drew);have HNe:=ns (show ¬(Value.slice A' l.length c').ownBlock=some g from hF1.2.2);have HBx:=ns ((hbx.alloc (.cells #[.string nm,.string vl] 129)).drew);have HNb:=ns (show ¬(Value.slice A' l.length c').ownBlock=some wr.heap.size from fun e=>by
      have:=(HF.out.1.2.1.lt _ e).2;omega)
     have HBB:=ns (show B≤((w1.alloc (.cells #[.string nm,.string vl] 129)).drew).heap.size by
      have:=hS1.size;simp;omega)
     have hgl:=hF1.1.lt;have hbl:=hbx.lt;clear hF1 hS1 hfo hsm;go_wp2_with fail
     go_region_law
      ((refine hU (by rfl) _ _ 60 129 (by rfl) Tryz.underlying60 _ 2 32 eS rfl (by decide) (by decide) B l.length _ (ao l) (by rfl) HOwn.out w1.heap.size #[.string nm,.string vl] (by rfl) HBlk.out rfl (by simp [Value.oneCell']) (by omega) HBB.out ?_;intro r cap w2 hown2 hs2 hr2;have hb2:=HKb.out.sm hs2 HNe.out;have cg2:=hb2.at 0 (v:=.slice A' l.length c') rfl;have zg2:=hb2.fz 0;have hbx2:=HBx.out.sm hs2 HNb.out;have d2:=hbx2.at 0 (v:=.string nm) rfl;have d3:=hbx2.at 1 (v:=.string vl) rfl))
     all_goals
      have hne:r≠g:=by
       rcases hr2 with e|e
       ·rintro rfl;exact HNe.out e
       ·simp at e;omega
      have hs3:=(Sm.refl (fun x=>x=g) w2).set1 0 (.slice (some ⟨r,0,none⟩) (l.length+1) cap);have hb3:Bk (w2.setCell ⟨g,0,none⟩ (.slice (some ⟨r,0,none⟩) (l.length+1) cap)) g 195 #[.slice (some ⟨r,0,none⟩) (l.length+1) cap]:=(hb2.set 0 _).eq (by rfl);have ho3:=aa hown2 hs3 (fun b hb=>by injection hb with hb;subst hb;exact hne);have hF3:aD (w2.setCell ⟨g,0,none⟩ (.slice (some ⟨r,0,none⟩) (l.length+1) cap)) B g 195 (.slice (some ⟨r,0,none⟩) (l.length+1) cap) (l++[add[k]]):=
       ⟨hb3,by rw [fe,HX.out.2.1,HX.out.2.2,List.length_append];exact ho3,by simp [Value.ownBlock];exact hne⟩
      have hS2:=((HR.out.2.1.alloc (.cells #[.string nm,.string vl] 129)).drew).trans hs2 (fun b hb e=>by
       rcases HR.out.2.2 with f|⟨q,f,hq⟩
       ·exact Or.inr (f ▸ e)
       ·rw [f] at e;injection e with e;omega)
      have hS3:=hS2.trans hs3 (fun b _ e=>Or.inl e);have hf3:cI w v0 (.slice (some ⟨r,0,none⟩) (l.length+1) cap):=by
       rcases hr2 with e|e
       ·rcases HR.out.2.2 with f|⟨q,f,hq⟩
        ·exact Or.inl (by rw [←f,e];rfl)
        ·rw [e] at f;injection f with f;exact Or.inr ⟨r,rfl,by omega⟩
       ·have:=HR.out.2.1.size;simp at e;exact Or.inr ⟨r,rfl,by omega⟩
      go_wp2_with fail;exact⟨⟨k+1,_,l++[add[k]],by omega,by go_num,by rw [HL.out,HST.out];simp;omega,by simp;omega,hF3,hS3,hf3⟩,by simp [intOf];omega⟩
  ·have hend:aY cur add=(l,add.length,0):=by
    have e:k=add.length:=by omega
    rw [HL.out,e,List.drop_length];simp [aY]
   have HE:=ns hend;clear hend;go_wp2_with fail;exact bodyPost_ret (v:=.tuple #[.int .i64 add.length,.int .i64 0]) (by simp [results,Tryz.results112,go_sem]) rfl
    ⟨v,by rw [HE.out],by rw [HE.out];exact HF.out.1,by rw [HE.out];exact hl,HF.out.2.1,HF.out.2.2⟩
def DT(w:World)(add:List aJ)(e:Ending)(w':World):Prop:=
 ∃ g v,e=.returned (.pointer (some ⟨g,0,none⟩))∧w.heap.size≤g∧aD w' w.heap.size g 195 v (aY [] add).1∧(aY [] add).1.length≤24∧Sm No w w'
theorem xL(w:World)(add:List aJ)(A:Option Addr)(c:Nat)(hA:dM w A add)(hshort:gK add)(hadd:add.length≤1000000):
 Calls Tryz.prog 72 #[.slice A add.length c] w (DT w add):=by
 have hs0:=(Sm.refl No w).alloc (.cells #[.slice none 0 0] 195);have HA:=ns hA;have h0:aD (w.alloc (.cells #[.slice none 0 0] 195)) w.heap.size w.heap.size 195 (.slice none 0 0) []:=
  ⟨Bk.new w _ _,World.ownsRow_nil _ _ _ 2,by simp [Value.ownBlock]⟩
 have hcon:=qU (w.alloc (.cells #[.slice none 0 0] 195)) w.heap.size w.heap.size (.slice none 0 0) [] add A c h0 (by simp) (hA.sm hs0 (fun _ _ h=>h)) (fun hl a ha=>by
  obtain⟨bb,off,e,hb,_⟩:=HA.out 0 hl;rw [e] at ha;injection ha with ha;subst ha;rintro(e|e)
  ·dsimp only at e;omega
  ·simp [Value.ownBlock] at e) hshort hadd (by simp)
 have HC:=ns hcon;have HS:=ns hs0;clear hA h0 hcon hs0;go_in;go_wp2_with fail;refine HC.out.mono ?_;rintro e w2 ⟨v,rfl,hF,hl,hs,hf⟩;have HF:=ns (BT hF (BT hl hs));clear hF hl hs hf;go_wp2_with fail;go_ret;exact⟨w.heap.size,v,rfl,Nat.le_refl _,HF.out.1,HF.out.2.1,HS.out.trans HF.out.2.2 (fun b hb e=>by
  rcases e with e|e
  ·omega
  ·simp [Value.ownBlock] at e)⟩
def ag(l:List aJ)(name:ByteArray):List ByteArray:=(l.filter fun x=>bA x.1.data.toList name.data.toList).map (·.2)
def mK(w:World)(B:Nat)(v:Value)(l:List ByteArray):Prop:=w.ownsRow B 9 1 v l.length (l.map Value.string)
def bU(w:World)(l:List aJ)(name:ByteArray)(e:Ending)(w':World):Prop:=∃ v,e=.returned v∧mK w' w.heap.size v (ag l name)∧Sm No w w'
def Cc(w:World)(l:List aJ)(name:ByteArray)(acc i:Value)(wr:World):Prop:=
 ∃ (k:Nat),k≤l.length∧i=.int .i64 k∧mK wr w.heap.size acc (ag (l.take k) name)∧Sm No w wr
theorem lr(l:List aJ)(name:ByteArray)(k:Nat)(h:k < l.length):ag (l.take (k+1)) name=if bA l[k].1.data.toList name.data.toList=true then ag (l.take k) name++[l[k].2] else ag (l.take k) name:=by
 unfold ag;rw [List.take_succ_eq_append_getElem h,List.filter_append]
 cases hq:bA l[k].1.data.toList name.data.toList<;>simp [hq]
theorem aD.row{w:World}{B g:Nat}{t:TypeId}{v:Value}{l:List aJ}(h:aD w B g t v l):∃ A c,v=.slice A l.length c∧dM w A l:=by
 rcases aR h.2.1 with ⟨rfl,h0,_⟩|⟨b,cap,rfl,_,_,hb,_,hc,_⟩
 ·exact⟨none,0,by rw [h0],fun k hk=>absurd hk (by omega)⟩
 ·refine⟨_,_,rfl,fun k hk=> ?_⟩;obtain⟨h1,h2⟩:=fg l k hk;exact⟨b,0,rfl,hb,by simpa using hc _ _ h1,by simpa using hc _ _ h2⟩
theorem lk{s t:ByteArray}{r:Bool}(h:Hid (bA s.data.toList t.data.toList=r))(hs:s.size≤1000000)(ht:t.size≤1000000)(w:World):
 Calls Tryz.prog 156 #[.string s,.string t] w fun e w'=>e=.returned (.bool r)∧Sm No w w':=by
 rw [←h.out];exact uQ s t hs ht w
theorem ig(w:World)(B g:Nat)(v:Value)(l:List aJ)(name:ByteArray)(hF:aD w B g 195 v l)(hl:l.length≤24)(hshort:gK l)(hn:name.size≤1000000):
 Calls Tryz.prog 123 #[.pointer (some ⟨g,0,none⟩),.string name] w (bU w l name):=by
 obtain⟨A,c,rfl,hR⟩:=hF.row;have cg:=hF.1.at 0 (v:=.slice A l.length c) rfl;have HR:=ns hR;have HS:=ns hshort;clear hR hshort hF;go_in;go_wp2_with fail
 go_loopw [5,15] (fun acc i wr=>Cc w l name acc i wr) (fun _ i _=>l.length-(intOf i).toNat)
 case atStart=>exact⟨0,Nat.zero_le _,rfl,World.ownsRow_nil _ _ _ 1,Sm.refl _ _⟩
 case round=>
  obtain⟨k,hk,rfl,hO,hs⟩:=hrel;have HO:=ns (BT hO hs);clear hO hs;by_cases hlt:k < l.length
  ·obtain⟨bb,off,hA,hbb,r0,r1⟩:=(HR.out.sm HO.out.2 (fun _ _ h=>h)) k hlt;subst hA;obtain⟨s0,s1⟩:=HS.out _ (List.getElem_mem hlt);have hsn:=lr l name k hlt;obtain⟨nm,hnm⟩:∃ x,l[k].1=x:=⟨_,rfl⟩;obtain⟨vl,hvl⟩:∃ x,l[k].2=x:=⟨_,rfl⟩;rw [hnm] at r0 s0 hsn;rw [hvl] at r1 hsn;obtain⟨f,hf⟩:=Iu (bA nm.data.toList name.data.toList);rw [hf] at hsn;have HF:=ns hf;have HN:=ns hsn;clear hnm hvl hf hsn;go_wp2_with fail;refine(lk HF s0 hn _).mono ?_;rintro e w1 ⟨rfl,hs1⟩;have hsm:=((Sm.refl No wr).alloc (.cells #[.string nm,.string vl] 129)).tt hs1;have hS1:=HO.out.2.tt hsm;have hO1:mK w1 w.heap.size u5 (ag (l.take k) name):=aa HO.out.1 hsm (fun _ _ h=>h);have hbx:=(Bk.new wr 129 #[.string nm,.string vl]).sm hs1 (fun h=>h)
   cases f
   ·have HX:=ns (BT hS1 hO1);clear hsm hS1 hO1 hs1;go_wp2_with fail;exact⟨⟨k+1,by omega,by go_num,by rw [HN.out];exact HX.out.2,HX.out.1⟩,by simp [intOf];omega⟩
   ·have d1:=hbx.at 1 (v:=.string vl) rfl;have hkl:(ag (l.take k) name).length≤1000000:=by
     have h1:=List.length_filter_le (fun x:aJ=>bA x.1.data.toList name.data.toList) (l.take k);have h2:=List.length_take_le k l;unfold ag;rw [List.length_map];omega
    have hbb1:w.heap.size≤w1.heap.size:=hS1.size;have HX:=ns (BT hS1 hO1);clear hsm hS1 hO1 hs1;go_wp2_with (refine aq rfl _ _ 125 9 rfl Tryz.underlying125 _ 1 16 dR rfl (by decide) (by decide) w.heap.size _ u5 _ rfl (World.ownsRow.alloc HX.out.2 _) w1.heap.size #[.string vl] rfl (Bk.new w1 _ _) rfl (by simp [Value.oneCell']) hkl (by simp;omega) ?_;intro v' w2 hown2 hs2 hv2);have hO3:mK w2 w.heap.size v' (ag (l.take (k+1)) name):=by
     rw [HN.out];unfold mK;simpa using hown2
    have hS3:Sm No w w2:=(HX.out.1.alloc (.cells #[.string vl] 9)).trans hs2 (fun b hb e=>by
     have:=(World.ownsRow.lt HX.out.2 b e).1;omega)
    exact⟨⟨k+1,by omega,by go_num,hO3,hS3⟩,by simp [intOf];omega⟩
  ·have ha:l.take k=l:=List.take_of_length_le (by omega);have HA:=ns ha;clear ha;go_wp2_with fail;go_ret;exact⟨_,rfl,by have:=HO.out.1;rw [HA.out] at this;exact this,HO.out.2⟩
def iV:List UInt8:=[44,32]
def dN(l:List aJ)(name:ByteArray):List UInt8:=Lib.join ((ag l name).map (·.data.toList)) iV
theorem Fc(xs:List ByteArray)(h:∀ x∈xs,x.size≤1000000):Lib.lens (xs.map (·.data.toList))≤1000000 * xs.length:=by
 induction xs with
 |nil=>simp [Lib.lens]
 |cons x xs ih=>
  have h1:=ih (fun y hy=>h y (List.mem_cons_of_mem _ hy));have h2:=h x (List.mem_cons_self ..);have h3:x.data.toList.length=x.size:=by simp
  simp only [Lib.lens,List.map_cons,List.sum_cons,List.length_cons] at h1 ⊢;omega
theorem E3(xs:List ByteArray)(h:∀ x∈xs,x.size≤1000000)(hl:xs.length≤1000):(Lib.join (xs.map (·.data.toList)) iV).length≤140737488355328:=by
 cases xs with
 |nil=>simp [Lib.join_nil]
 |cons x xs=>
  rw [List.map_cons,Lib.join_length];have:=Fc (x::xs) h;simp only [List.map_cons,List.length_cons,List.length_map] at this hl ⊢;have h2:iV.length=2:=rfl;rw [h2];omega
theorem jM{l:List aJ}{name:ByteArray}(h:gK l):∀ x∈ag l name,x.size≤1000000:=by
 intro x hx;unfold ag at hx;obtain⟨y,hy,rfl⟩:=List.mem_map.mp hx;exact(h y (List.mem_filter.mp hy).1).2
theorem gu(l:List aJ)(name:ByteArray):(ag l name).length≤l.length:=by
 unfold ag;rw [List.length_map];exact List.length_filter_le _ _
theorem Dj(w:World)(B:Nat)(v:Value)(xs:List ByteArray)(hO:mK w B v xs)(h:∀ x∈xs,x.size≤1000000)(hl:xs.length≤1000):
 Calls Tryz.prog 114 #[v,.string ⟨#[44,32]⟩] w fun e w'=>e=.returned (.string ⟨(Lib.join (xs.map (·.data.toList)) iV).toArray⟩)∧Sm No w w':=by
 rcases aR hO with ⟨rfl,h0,_⟩|⟨b,cap,rfl,_,_,hb,hcap,hc,_⟩
 ·have:xs=[]:=List.eq_nil_of_length_eq_zero h0;subst this;exact(Tryz.strings_Join_none none 0 _ w).mono fun e w' ⟨he,hw⟩=>⟨he,hw ▸ Sm.refl _ _⟩
 ·exact(Tryz.strings_Join b 0 cap xs ⟨#[44,32]⟩ w (fun j x hj=>by
   rw [Nat.zero_add];exact hc j _ (by simp [hj])) hb (by omega) hcap (E3 xs h hl)).mono fun e w' ⟨he,hB⟩=>⟨he,Sm.of_below hB No⟩
theorem yp(w:World)(B g:Nat)(v:Value)(l:List aJ)(name:ByteArray)(hF:aD w B g 195 v l)(hl:l.length≤24)(hshort:gK l)(hn:name.size≤1000000):
 Calls Tryz.prog 73 #[.pointer (some ⟨g,0,none⟩),.string name] w fun e w'=>e=.returned (.string ⟨(dN l name).toArray⟩)∧Sm No w w':=by
 have HV:=ns (ig w B g v l name hF hl hshort hn);have HX:=ns (BT (jM (name:=name) hshort) (gu l name));clear hF hshort;obtain⟨r,hr⟩:=Iu ((⟨(dN l name).toArray⟩:ByteArray));have HJ:=ns (fun (w:World) (B:Nat) (v:Value) (hO:mK w B v (ag l name))=>hr ▸ Dj w B v _ hO HX.out.1 (by have:=HX.out.2;omega));rw [hr];clear hr;go_in;go_wp2_with fail;refine HV.out.mono ?_;rintro e w1 ⟨vs,rfl,hO,hs⟩;have HO:=ns (BT hO hs);clear hO hs;go_wp2_with fail;refine(HJ.out _ _ _ HO.out.1).mono ?_;rintro e w2 ⟨rfl,hs2⟩;go_wp2_with fail;go_ret;exact⟨rfl,HO.out.2.tt hs2⟩
def kA:ByteArray:=⟨#[97]⟩
def kB:ByteArray:=⟨#[98]⟩
end Go.Proofs.YtcflkcbogofgbaaGreatDoor
