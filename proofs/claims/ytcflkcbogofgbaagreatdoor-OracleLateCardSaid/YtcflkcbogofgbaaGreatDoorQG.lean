import Derived.Test.YtcflkcbogofgbaaGreatDoorQSiteD
import Derived.Test.YtcflkcbogofgbaaGreatDoorQU
import Derived.Test.YtcflkcbogofgbaaGreatDoorQT
import Derived.Lib.RowBridge
import Derived.Test.YtcflkcbogofgbaaGreatDoorQN
set_option maxHeartbeats 4000000
set_option maxRecDepth 100000
namespace Go.Proofs.YtcflkcbogofgbaaGreatDoor
open Go.RowKit Go.Proofs
theorem ek.ltO{tt:TypeId}{tl:List Value}{w:World}{O:Nat→Prop}{r:Nat}{L:List Lt}(h:ek tt tl w O r L):∀ b,O b→b < w.heap.size:=by
 obtain⟨_,_,_,_,_,_,_,_,_,h,_⟩:=h;exact h
theorem ek.own{tt:TypeId}{tl:List Value}{w:World}{O:Nat→Prop}{r:Nat}{L:List Lt}(h:ek tt tl w O r L):O r:=by
 obtain⟨_,_,_,_,_,_,h,_⟩:=h;exact h
def lQ(w w1:World)(K:Nat→Prop)(tt:TypeId)(tl:List Value)(r:Nat)(L:List Lt):Prop:=∃ O,ek tt tl w1 O r L∧Sm No w w1∧(∀ b,O b→w.heap.size≤b)∧∀ b,K b→b < w1.heap.size∧¬O b
section
variable {w w1 w2:World} {K:Nat→Prop} {tt:TypeId} {tl:List Value} {r:Nat} {L:List Lt}
theorem lQ.no(h:lQ w w1 K tt tl r L)(hs:Sm No w1 w2):lQ w w2 K tt tl r L:=by
 obtain⟨O,h1,h2,h3,h4⟩:=h;exact⟨O,h1.no hs,h2.tt hs,h3,fun b hb=>⟨Nat.lt_of_lt_of_le (h4 b hb).1 hs.size,(h4 b hb).2⟩⟩
theorem lQ.more(h:lQ w w1 K tt tl r L)(hs:Sm No w1 w2){K2:Nat→Prop}(hK:∀ b,K2 b→(K b∨w1.heap.size≤b)∧b < w2.heap.size):lQ w w2 K2 tt tl r L:=by
 obtain⟨O,h1,h2,h3,h4⟩:=h;refine⟨O,h1.no hs,h2.tt hs,h3,fun b hb=>⟨(hK b hb).2,fun e=> ?_⟩⟩;rcases (hK b hb).1 with hb|hb
 ·exact(h4 b hb).2 e
 ·have:=h1.ltO b e;omega
theorem lQ.sm(h:lQ w w1 K tt tl r L):Sm No w w1:=by
 obtain⟨_,_,h,_⟩:=h;exact h
theorem lQ.cell(h:lQ w w1 K tt tl r L):r < w1.heap.size∧∃ A c,w1.cell? ⟨r,0,none⟩=some (.slice A L.length c)∧∀ k (x:Lt),L[k]?=some x→∃ g,A=some ⟨g,0,none⟩∧g < w1.heap.size∧w1.cell? ⟨g,k * 3,none⟩=some (gj x.pat):=by
 obtain⟨O,⟨v,l,hT⟩,_⟩:=h;obtain⟨A,c,rfl⟩:=hT.form;refine⟨hT.1.lt,A,c,hT.1.at 0 (by simp),fun k x hx=> ?_⟩;obtain⟨hk,e⟩:=List.getElem?_eq_some_iff.1 hx;obtain⟨g,A2,c2,hAe,r0,_⟩:=hT.get hk;rw [e] at r0;exact⟨g,hAe,World.block_lt_of_cell? _ _ r0,r0⟩
theorem lQ.old(h:lQ w w1 K tt tl r L){K2:Nat→Prop}(hK:∀ b,K2 b→K b∨b < w.heap.size):lQ w w1 K2 tt tl r L:=by
 obtain⟨O,h1,h2,h3,h4⟩:=h;refine⟨O,h1,h2,h3,fun b hb=> ?_⟩;rcases hK b hb with hb|hb
 ·exact h4 b hb
 ·exact⟨Nat.lt_of_lt_of_le hb h2.size,fun e=>by have:=h3 b e;omega⟩
end
def jt(w:World)(O:Nat→Prop)(x:Nat)(T:List bE):Prop:=
 ∃ (Q:Nat→Prop) (vT:Value),ek 150 [vT] w Q x (am T)∧CF w 0 vT T∧(∀ b,(Q b∨vT.ownBlock=some b)→O b)∧∀ b,O b→b < w.heap.size
theorem jt.sm{S O:Nat→Prop}{w w':World}{s:Nat}{T:List bE}(h:jt w O s T)(hs:Sm S w w')(hS:∀ b,O b→¬S b):jt w' O s T:=by
 obtain⟨Q,vT,h1,h3,h4,h5⟩:=h;exact⟨Q,vT,h1.sm hs (fun b hb=>hS b (h4 b (Or.inl hb))),aa h3 hs (fun b hb=>hS b (h4 b (Or.inr hb))),h4,fun b hb=>Nat.lt_of_lt_of_le (h5 b hb) hs.size⟩
theorem jt.no{O:Nat→Prop}{w w':World}{s:Nat}{T:List bE}(h:jt w O s T)(hs:Sm No w w'):jt w' O s T:=h.sm hs (fun _ _ h=>h)
theorem oU{x:bE}(h:jg x=true):kd (ab x.path)=true∧x.type.size≠0∧x.type.size≤100∧eg (ab x.type)=true∧aw (ab x.type)=ab x.type∧x.data.size≤2048:=by
 unfold jg at h;simp only [Bool.and_eq_true,decide_eq_true_eq,beq_iff_eq,ae] at h;obtain⟨a,b,c,d,e,f⟩:=h;refine⟨a,fun h0=> ?_,c,d,e,f⟩;have:ab x.type=[]:=List.eq_nil_of_length_eq_zero (by rw [ae];exact h0);rw [this] at b
 cases b
def BQ(kind:ByteArray)(l:List UInt8):gA:=⟨200,[(co lD,kind)],l,[]⟩
def kp(w:World)(B:Nat)(r:gA)(e:Ending)(w':World):Prop:=∃ v,e=.returned v∧jq w' B v r∧Sm No w w'
def wL(w:World)(B:Nat)(kind:ByteArray)(l:List UInt8)(e:Ending)(w':World):Prop:=∃ vF vB,e=.returned (.agg #[.int .i64 200,vF,vB,.slice none 0 0])∧aV w' B 129 2 vF 1 (ao [(co lD,kind)])∧lO w' B 5 vB l∧Sm No w w'
theorem wL.ans{w w':World}{B:Nat}{kind:ByteArray}{l:List UInt8}{e:Ending}(h:wL w B kind l e w'):kp w B (BQ kind l) e w':=by
 obtain⟨vF,vB,rfl,h1,h2,h3⟩:=h;exact⟨_,rfl,⟨_,_,_,rfl,h1,h2,aV.nil _ _ _ _⟩,h3⟩
theorem Bk.ownU{w:World}{g n size B:Nat}{t:TypeId}{cs:Array Value}(h:Bk w g t cs)(hB:B≤g)(hn:cs.size=n * size)(hm:n≤maxLen):aV w B t size (.slice (some ⟨g,0,none⟩) n n) n cs.toList:=
 ⟨by simpa using hn,Or.inr ⟨g,n,cs,(0,0),rfl,hB,h,Or.inl rfl,Nat.le_refl _,hm,hn,by rw [←hn];exact List.take_length⟩⟩
theorem sX(w:World)(B:Nat)(hB:B≤w.heap.size)(kind:ByteArray)(v:Value)(l:List UInt8)(hv:lO w B 5 v l):
 Calls Tryz.prog 74 #[.string kind,v] w (wL w B kind l):=by
 obtain⟨A,c,rfl,_⟩:=hv.row;have HV:=ns (BT hv hB);clear hv hB;obtain⟨n,hn⟩:=Iu l.length;have HN:=ns hn;rw [hn] at HV ⊢;clear hn;go_in;go_wp2_with fail;have hs:Sm No w (w.alloc (.cells #[.int .i64 200,.slice (some ⟨w.heap.size+1,0,none⟩) 1 1,.slice A n c,.slice none 0 0] 94)):=(Sm.refl No w).alloc _;have hb0:=(Bk.new w 94 #[.int .i64 200,.slice (some ⟨w.heap.size+1,0,none⟩) 1 1,.slice A n c,.slice none 0 0]).alloc (.cells #[.string ⟨#[67,111,110,116,101,110,116,45,84,121,112,101]⟩,.string kind] 129);have c0:=hb0.at 0 (v:=.int .i64 200) rfl;have c1:=hb0.at 1 (v:=.slice (some ⟨w.heap.size+1,0,none⟩) 1 1) rfl;have c2:=hb0.at 2 (v:=.slice A n c) rfl;have c3:=hb0.at 3 (v:=.slice none 0 0) rfl;have hb:=Bk.newAt (w.alloc (.cells #[.int .i64 200,.slice (some ⟨w.heap.size+1,0,none⟩) 1 1,.slice A n c,.slice none 0 0] 94)) 129 #[.string ⟨#[67,111,110,116,101,110,116,45,84,121,112,101]⟩,.string kind] (g:=w.heap.size+1) (by simp);refine bodyPost_ret (v:=.agg #[.int .i64 200,.slice (some ⟨w.heap.size+1,0,none⟩) 1 1,.slice A n c,.slice none 0 0]) (by simp [results,Tryz.results74,go_sem,c0,c1,c2,c3]) rfl ⟨_,_,rfl,hb.ownU (by have:=HV.out.2;omega) rfl (by decide),?_,hs.alloc _⟩;exact HV.out.1.no (hs.alloc _)
theorem mQ(w:World)(B:Nat)(hB:B≤w.heap.size)(kind:ByteArray)(v:Value)(l:List UInt8)(hv:lO w B 5 v l):
 Calls Tryz.prog 74 #[.string kind,v] w (kp w B (BQ kind l)):=(sX w B hB kind v l hv).mono fun _ _ h=>h.ans
theorem cH{w w9:World}{r0 B:Nat}{st:Int}{vF vB vP a b c d:Value}{r:gA}(hr0:w.heap.size≤r0)(hs:Sm No w w9)(hb:Bk w9 r0 94 #[a,b,c,d])(hB:r0 < B)(hR:jq w9 B (.agg #[.int .i64 st,vF,vB,vP]) r):
 kp w w.heap.size r (.returned (.agg #[.int .i64 st,vF,vB,vP])) ((((w9.setCell ⟨r0,0,none⟩ (.int .i64 st)).setCell ⟨r0,1,none⟩ vF).setCell ⟨r0,2,none⟩ vB).setCell ⟨r0,3,none⟩ vP)∧
 Bk ((((w9.setCell ⟨r0,0,none⟩ (.int .i64 st)).setCell ⟨r0,1,none⟩ vF).setCell ⟨r0,2,none⟩ vB).setCell ⟨r0,3,none⟩ vP) r0 94 #[.int .i64 st,vF,vB,vP]:=by
 have hS:Sm (fun b=>b=r0) w9 _:=((((Sm.refl _ w9).set1 0 (.int .i64 st)).set1 1 vF).set1 2 vB).set1 3 vP;exact⟨⟨_,rfl,(hR.sm hS (fun b e=>by omega)).base (by omega),hs.trans hS (fun b hb e=>by omega)⟩,(((hb.set 0 (.int .i64 st)).set 1 vF).set 2 vB).set 3 vP⟩
def AW:List UInt8:=[44,32]
def GN:List UInt8:=[65,108,108,111,119]
def nH(al:List af):List UInt8:=Lib.join al AW
def eK(al:List af):aJ:=(co GN,co (nH al))
theorem Dz{w:World}{g:Nat}{t:TypeId}{a b:ByteArray}(h:Bk w g t #[.string a,.string b]):dM w (some ⟨g,0,none⟩) [(a,b)]:=by
 intro k hk;have:k=0:=by simpa using hk
 subst this;exact⟨g,0,rfl,h.lt,h.at 0 rfl,h.at 1 rfl⟩
def rG(al:List af):Prop:=al.length≤1000∧∀ t∈al,t.length≤1000
theorem B0{al:List af}(h:∀ t∈al,t.length≤1000):(Lib.joinTail AW al).length≤al.length * 1002:=by
 induction al with
 |nil=>simp [Lib.joinTail]
 |cons x r ih=>
  have h1:=h x List.mem_cons_self;have h2:=ih (fun t ht=>h t (List.mem_cons_of_mem _ ht));have e:Lib.joinTail AW (x::r)=(AW++x)++Lib.joinTail AW r:=rfl;rw [e,List.length_append,List.length_append,List.length_cons];have:AW.length=2:=rfl;omega
theorem BW{al:List af}(h:∀ t∈al,t.length≤1000):(nH al).length≤al.length * 1002:=by
 cases al with
 |nil=>simp [nH,Lib.join_nil]
 |cons x r=>
  have h1:=h x List.mem_cons_self;have h2:=B0 (fun t ht=>h t (List.mem_cons_of_mem _ ht));unfold nH;rw [Lib.join_cons,List.length_append,List.length_cons];omega
theorem yZ(w:World)(A:Option Addr)(c:Nat)(al:List af)(hA:ar w A (al.map aX))(hm:rG al)(hc:al.length≤c):
 Calls Tryz.prog 114 #[.slice A al.length c,.string ⟨#[44,32]⟩] w fun e w'=>e=.returned (.string (co (nH al)))∧Sm No w w':=by
 cases al with
 |nil=>exact(Tryz.strings_Join_none A c _ w).mono fun e w' ⟨he,hw⟩=>⟨he,hw ▸ Sm.refl _ _⟩
 |cons x r=>
  obtain⟨bb,off,rfl,hb,_⟩:=hA.at (j:=0) (u:=aX x) rfl;have e1:((x::r).map fun t=>(⟨t.toArray⟩:ByteArray)).map (·.data.toList)=x::r:=by
   rw [List.map_map];exact List.map_id'' (fun _=>rfl) _
  have hJ:=Tryz.strings_Join bb off c ((x::r).map fun t=>(⟨t.toArray⟩:ByteArray)) ⟨#[44,32]⟩ w (fun j y hj=>by
   obtain⟨_,_,e,_,h⟩:=hA.at (j:=j) (u:=.string y) (by
    rw [List.getElem?_map] at hj ⊢
    cases hx:(x::r)[j]? with
    |none=>rw [hx] at hj;cases hj
    |some z=>rw [hx] at hj;injection hj with hj;rw [←hj];rfl)
   injection e with e;injection e with e1 e2;subst e1 e2;exact h) hb (by rw [List.length_map];have:=hm.1;omega) (by rw [List.length_map];exact hc) (by
   rw [e1];have:=BW hm.2;unfold nH at this;have:=hm.1;exact Nat.le_trans (by assumption) (by omega))
  rw [e1,List.length_map] at hJ;exact hJ.mono fun e w' ⟨he,hB⟩=>⟨he,Sm.of_below hB No⟩
theorem kj(w:World)(hg:G1 w)(c:Int)(hc0:0≤c)(hc1:c≤9223372036854775807)(A:Option Addr)(cap:Nat)(al:List af)(hA:ar w A (al.map aX))(hm:rG al)(hc:al.length≤cap):
 Calls Tryz.prog 68 #[.int .i64 c,.slice A al.length cap] w (kp w w.heap.size (aC c [eK al])):=by
 have HG:=ns hg;obtain⟨J,hJ⟩:=Iu (co (nH al));have HM:=ns (fun w' (hs:Sm No w w')=>hJ ▸ yZ w' A cap al (hA.no hs) hm hc);have HF:=ns (show eK al=(⟨#[65,108,108,111,119]⟩,J) from by unfold eK;rw [hJ];rfl);clear hA hm hc hg hJ;obtain⟨r0,hr0⟩:=Iu w.heap.size;have HR:=ns hr0;rw [hr0];clear hr0;go_in;go_wp2_with fail;refine(HM.out _ ((Sm.refl No w).alloc _)).mono ?_;rintro e w2 ⟨rfl,hs2⟩;have hb2:=(Bk.newAt w 94 #[.int .i64 0,.slice none 0 0,.slice none 0 0,.slice none 0 0] HR.out.symm).sm hs2 (fun h=>h);have hs2:=((Sm.refl No w).alloc (.cells #[.int .i64 0,.slice none 0 0,.slice none 0 0,.slice none 0 0] 94)).tt hs2;rw [HR.out];have H2:=ns (BT hb2 hs2);clear hb2 hs2;go_wp2_with fail;refine(eZ _ ((HG.out.no H2.out.2).no ((Sm.refl No w2).alloc _)) c hc0 hc1 (some ⟨w2.heap.size,0,none⟩) 1 [(⟨#[65,108,108,111,119]⟩,J)] (Dz (Bk.new w2 _ _)) (fun e=>by cases e) (by simp)).mono ?_;rintro e w3 ⟨v,rfl,hR,hs3⟩;have hb3:=(H2.out.1.alloc (.cells #[.string ⟨#[65,108,108,111,119]⟩,.string J] 129)).sm hs3 (fun h=>h);have hs3:=(H2.out.2.alloc (.cells #[.string ⟨#[65,108,108,111,119]⟩,.string J] 129)).tt hs3;have hlt:r0 < (w2.alloc (.cells #[.string ⟨#[65,108,108,111,119]⟩,.string J] 129)).heap.size:=by have:=H2.out.1.lt;simp;omega
 obtain⟨R,hRR⟩:∃ R,aC c [(⟨#[65,108,108,111,119]⟩,J)]=R:=⟨_,rfl⟩;rw [hRR] at hR;have HRR:=ns hRR;clear hRR;obtain⟨vF,vB,vP,rfl,hFF,hB,hP⟩:=hR;obtain⟨A1,c1',rfl,_⟩:=hFF.row;obtain⟨A2,c2',rfl,_⟩:=hB.row;obtain⟨A3,c3',rfl,_⟩:=hP.row;have HD:=ns (cH (Nat.le_of_eq HR.out) hs3 hb3 hlt ⟨_,_,_,rfl,hFF,hB,hP⟩);have hl:=hb3.lt;have f0:=hb3.fz 0;have f1:=hb3.fz 1;have f2:=hb3.fz 2;have f3:=hb3.fz 3;have d0:=hb3.at 0 rfl;have d1:=hb3.at 1 rfl;have d2:=hb3.at 2 rfl;have d3:=hb3.at 3 rfl;clear hFF hB hP hb3 hs3 hlt;go_wp2_with fail;have c0:=HD.out.2.at 0 rfl;have c1:=HD.out.2.at 1 rfl;have c2:=HD.out.2.at 2 rfl;have c3:=HD.out.2.at 3 rfl;exact bodyPost_ret (v:=.agg #[.int .i64 R.st,.slice A1 R.fs.length c1',.slice A2 R.body.length c2',.slice A3 R.parts.length c3']) (by simp [results,Tryz.results68,go_sem,c0,c1,c2,c3]) rfl (by have h:=HD.out.1;rw [HR.out] at h;rw [HF.out,HRR.out];exact h)
structure Rq where
 m:ByteArray
 form:Int
 host:ByteArray
 path:ByteArray
 query:ByteArray
 minor:Int
 fs:List aJ
 body:List UInt8
 close:Bool
 expect:Bool
def FV(q:Rq)(A:Option Addr)(c:Nat)(B:Option Addr)(d:Nat):Value:=
 .agg #[.string q.m,.int .i64 q.form,.string q.host,.string q.path,.string q.query,.int .i64 q.minor,.slice A q.fs.length c,.slice B q.body.length d,.bool q.close,.bool q.expect]
def m4:List af:=[na,fW,FS,px]
def rP:List UInt8:=[97,112,112,108,105,99,97,116,105,111,110,47,111,99,116,101,116,45,115,116,114,101,97,109]
def jz:List UInt8:=[115,116,114,101,97,109]
def mw(fs:List aJ):ByteArray:=if aw (dN (aY [] fs).1 (co lD))=[] then co rP else co (aw (dN (aY [] fs).1 (co lD)))
def rj(T:List bE)(q:af):gA:=match T.find? (fun x=>ab x.path==47::q) with
 |some x=>BQ (co cL) (ab x.data)
 |none=>aC 404 []
def dt(n:Nat):List Nat:=(List.range ((n+15) / 16)).map fun k=>min (16 * (k+1)) n
def wM(x:bE):gA:=⟨200,[(co lD,x.type)],ab x.data,if Lib.hasPrefix (ab x.type) jz=true then dt x.data.size else []⟩
def EG(T:List bE)(q:Rq)(i:Int):gA:=
 if i=1 then BQ (mw q.fs) q.body else if i=2 then rj T (ab q.query) else if i=3 then BQ (co cL) [111,107,10] else match T[(i-10).toNat]? with
 |some x=>wM x
 |none=>aC 404 []
def cZ(T:List bE)(q:Rq):gA:=
 if q.form=4 then aC 204 [eK m4] else if q.form=3∨ab q.m∉m4 then aC 501 [] else
 if (bl (am T) (ab q.m) (ab q.path)).2.2.2=404 then aC 404 [] else
 if (bl (am T) (ab q.m) (ab q.path)).2.2.2=405 then aC (if ab q.m=FS then 204 else 405) [eK (bl (am T) (ab q.m) (ab q.path)).2.2.1] else
 EG T q (bl (am T) (ab q.m) (ab q.path)).1
theorem yh{L:List Lt}{m:af}{i:Int}(h:uU L m=some i):∃ y∈L,y.id=i:=by
 induction L with
 |nil=>cases h
 |cons x r ih=>
  unfold uU at h;split at h
  ·injection h with h;exact⟨x,List.mem_cons_self,h⟩
  ·obtain⟨y,hy,e⟩:=ih h;exact⟨y,List.mem_cons_of_mem _ hy,e⟩
theorem Bf{L:List Lt}{m:af}{i:Int}(h:iO L m=some i):∃ y∈L,y.id=i:=by
 unfold iO at h;split at h
 ·rename_i j hj
  injection h with h;rw [←h];exact yh hj
 ·split at h
  ·exact yh h
  ·cases h
theorem xn(T:List bE)(m path:af):
 ((bl (am T) m path).2.2.2=404∨((bl (am T) m path).2.2.2=405∧rG (bl (am T) m path).2.2.1∨((bl (am T) m path).2.2.2=200∧((bl (am T) m path).1=1∨(bl (am T) m path).1=2∨(bl (am T) m path).1=3∨∃ (k:Nat) (x:bE),T[k]?=some x∧(bl (am T) m path).1=10+(k:Int)))))∨40 < T.length:=by
 by_cases hT:40 < T.length
 ·exact Or.inr hT
 refine Or.inl ?_;unfold bl
 cases hf:jO (am T) path with
 |none=>exact Or.inl rfl
 |some kr=>
  obtain⟨k,rest⟩:=kr;refine Or.inr ?_
  cases hp:iO (iN (am T) k) m with
  |none=>
   simp only [hp];refine Or.inl ⟨trivial,?_,?_⟩
   ·unfold ib;refine Nat.le_trans (Lib.compact_length_le _) ?_;unfold eb;rw [List.length_mergeSort];have h1:(fI (iN (am T) k)).length≤43:=by
     have h2:∀ S:List Lt,(∀ y∈S,y.ms.length=1)→(fI S).length=S.length:=by
      intro S hS
      induction S with
      |nil=>rfl
      |cons y S ih=>
       have:=hS y List.mem_cons_self;have:=ih (fun z hz=>hS z (List.mem_cons_of_mem _ hz));unfold fI at *;rw [List.flatMap_cons,List.length_append,List.length_cons];omega
     rw [h2 _ (fun y hy=>by
      rcases eR (List.mem_filter.1 hy).1 with hb|⟨_,_,_,rfl⟩
      ·simp only [jS,List.mem_cons,List.not_mem_nil,or_false] at hb;rcases hb with rfl|rfl|rfl<;>rfl
      ·rfl)]
     refine Nat.le_trans (List.length_filter_le _ _) ?_;rw [iq];omega
    unfold cJ;split
    ·rw [List.length_append];simp;omega
    ·omega
   ·intro t ht;unfold ib at ht;have ht:=((mJ (sK _)).2 t).1 ht;unfold eb at ht;rw [List.mem_mergeSort] at ht;unfold cJ at ht;have h2:t=fW∨t∈fI (iN (am T) k):=by
     split at ht
     ·rcases List.mem_append.1 ht with h|h
      ·exact Or.inr h
      ·exact Or.inl (by simpa using h)
     ·exact Or.inr ht
    rcases h2 with rfl|h2
    ·decide
    ·obtain⟨y,hy,hty⟩:=List.mem_flatMap.1 h2;rcases eR (List.mem_filter.1 hy).1 with hb|⟨_,_,_,rfl⟩
     ·simp only [jS,List.mem_cons,List.not_mem_nil,or_false] at hb;rcases hb with rfl|rfl|rfl<;>(simp only [List.mem_cons,List.not_mem_nil,or_false] at hty;subst hty;decide)
     ·have:t=na:=by simpa [cX] using hty
      subst this;decide
  |some i=>
   simp only [hp];refine Or.inr ⟨trivial,?_⟩;obtain⟨y,hy,e⟩:=Bf hp;rcases eR (List.mem_filter.1 hy).1 with hb|⟨j,x,hx,rfl⟩
   ·simp only [jS,List.mem_cons,List.not_mem_nil,or_false] at hb;rcases hb with rfl|rfl|rfl
    ·exact Or.inl e.symm
    ·exact Or.inr (Or.inl e.symm)
    ·exact Or.inr (Or.inr (Or.inl e.symm))
   ·refine Or.inr (Or.inr (Or.inr ⟨j,x,hx,?_⟩));rw [←e];show ((10+j:Nat):Int)=_;omega
end Go.Proofs.YtcflkcbogofgbaaGreatDoor
namespace Go.Proofs.YtcflkcbogofgbaaGreatDoor
open Go.RowKit Go.WideShapes Go.ChangeShapes Go.Proofs Go.Deep
def G4(w:World)(A:Option Addr)(T:List bE)(c:Nat):Prop:=
 ar w A (cD T)∧T.length≤c∧c≤4398046511104∧(∀ x∈T,x.path.size≤140737488351232∧x.type.size≤140737488351232∧x.data.size≤140737488351232)∧(A=none→c=0)
def AP(w:World)(A:Option Addr)(l:List UInt8)(c:Nat):Prop:=
 ar w A (bC l)∧l.length≤c∧c≤140737488351232∧(A=none→c=0)
theorem G4.no{w w':World}{A:Option Addr}{T:List bE}{c:Nat}(h:G4 w A T c)(hs:Sm No w w'):G4 w' A T c:=⟨h.1.no hs,h.2⟩
theorem AP.no{w w':World}{A:Option Addr}{l:List UInt8}{c:Nat}(h:AP w A l c)(hs:Sm No w w'):AP w' A l c:=⟨h.1.no hs,h.2⟩
section
variable {H:Type} {enc:TypeId × Value→H} {w:World}
theorem pH{fuel:Nat}{v:Value}{d:DataW H}{ps:List MemPlace}(h:DataW.trod enc Tryz.prog w 0 (fun _=>true) true fuel 22 [v]=some (d,ps))(hz:∀ n∈d.weights Tryz.prog 22,n≤140737488351232):
 ∃ A l c,v=.slice A l.length c∧AP w A l c:=by
 rcases BZ Tryz.underlying22 (n:=1) (by kernel_rfl) (by decide) h with rfl|⟨a,len,cap,rfl,hl,hm,hwt,hall⟩
 ·exact⟨none,[],0,rfl,ar.nil _ _,Nat.le_refl _,by omega,fun _=>rfl⟩
 ·have each:∀ i,i < len→∃ s:UInt8,True∧∃ bb off,a=⟨bb,off,none⟩∧bb < w.heap.size∧w.cell? ⟨bb,off+i,none⟩=some (.int .u8 s.toNat):=fun i hi=>by
   obtain⟨bb,off,cs,D,Pl,k,hA,hb,hlen,hcell,htr,hw⟩:=hall i hi;obtain⟨n,rfl,_,hwf⟩:=DataW.trod_int Tryz.underlying5 htr;have hn:0≤n∧n≤255:=by
    simpa [Lit.wf,IntKind.min,IntKind.max,IntKind.signed,IntKind.bits] using hwf
   refine⟨UInt8.ofNat n.toNat,trivial,bb,off,hA,hb,?_⟩;have h0:=hcell 0 (by decide);rw [Nat.mul_one,Nat.add_zero] at h0;rw [h0];have e:((UInt8.ofNat n.toNat).toNat:Int)=n:=by
    rw [UInt8.toNat_ofNat'];omega
   rw [e];rfl
  obtain⟨f,hf⟩:=choose_lt (α:=UInt8) each;have hcap:=hz _ hwt;rw [show Tryz.prog.bytesOf 5=1 by kernel_rfl] at hcap;refine⟨some a,(List.range len).map f,cap,by simp,fun j u hj=> ?_,by simpa using hl,by omega,fun h=>by cases h⟩;have hj':j < len:=by
   have:=(List.getElem?_eq_some_iff.1 hj).1;simpa [bC] using this
  obtain⟨_,bb,off,hA,hb,h0⟩:=hf j hj';have eu:u=.int .u8 ((f j).toNat:Int):=by
   have:(bC ((List.range len).map f))[j]?=some (.int .u8 ((f j).toNat:Int)):=by simp [bC,hj']
   exact Option.some.inj (hj.symm.trans this)
  rw [eu];exact⟨bb,off,by rw [hA],hb,h0⟩
theorem nK{base:Nat}{v:Value}{d:DataW H}{ps:List MemPlace}(hv:Value.okWide Tryz.prog w .any base 22 v)(h:DataW.Trod enc Tryz.prog w 0 (fun _=>true) true 22 v d ps)(hz:∀ n∈d.weights Tryz.prog 22,n≤140737488351232):
 ∃ A l c,v=.slice A l.length c∧AP w A l c:=by
 obtain⟨x,len,cap,rfl⟩:=okWide_slice Tryz.underlying22 hv;obtain⟨k,hk⟩:=h;exact pH hk hz
end
end Go.Proofs.YtcflkcbogofgbaaGreatDoor
