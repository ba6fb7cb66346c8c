import Derived.Test.YtcflkcbogofgbaaGreatDoorQPH
import Derived.Test.YtcflkcbogofgbaaGreatDoorQPrtB
set_option maxHeartbeats 32000000
set_option maxRecDepth 100000
namespace Go.Proofs.YtcflkcbogofgbaaGreatDoor
open Go.RowKit Go.Proofs
def jY(g:Nat):Nat→Prop:=fun x=>x=g
theorem bn.one{w:World}{O:Nat→Prop}{g:Nat}(h:bn w O g .idle):bn w (jY g) g .idle:=⟨h.q,rfl,fun x e=>by rw [e];exact h.lt g h.og⟩
theorem bn.out1{w w':World}{S:Nat→Prop}{g:Nat}(h:bn w (jY g) g .idle)(hs:Sm S w w')(hS:¬S g):bn w' (jY g) g .idle:=by
 obtain⟨⟨hd,ln,k,l,c,x,vB,ch,cm,hK⟩,og,lt⟩:=h;exact⟨⟨hd,ln,k,l,c,x,vB,ch,cm,Bk.sm hK hs hS⟩,rfl,fun x e=>by rw [e];exact Nat.lt_of_lt_of_le (lt g rfl) hs.size⟩
theorem GJ.m{w:World}{B:Nat}{h:Hd}{b:af}{v:Value}(hv:GJ (fun x=>B≤x) w (Ds h b) v):∃ q:gJ,q.x=(h,b)∧v=.agg q.cells.toArray∧q.In w (fun x=>B≤x∧x < w.heap.size):=by
 obtain⟨A1,c1,A2,c2,rfl,h1,h2,⟨a1,rfl,f1⟩,⟨a2,rfl,f2⟩⟩:=hv;refine⟨⟨(h,b),_,c1,_,c2⟩,rfl,rfl,h1,(fun e=>by cases e),h2,(fun e=>by cases e),fun a e h0=> ?_,fun a e h0=> ?_⟩
 ·injection e with e;subst e;refine⟨f1,?_⟩;obtain⟨bb,off,e2,hb,_⟩:=h1 0 (List.length_pos_iff.2 h0);injection e2 with e2;rw [e2];exact hb
 ·injection e with e;subst e;refine⟨f2,?_⟩;obtain⟨bb,off,e2,hb,_⟩:=h2 0 (aM (b[0]'(List.length_pos_iff.2 h0))) (by rw [List.getElem?_map];show (b[0]?).map aM=_;rw [List.getElem?_eq_getElem (List.length_pos_iff.2 h0)];rfl);injection e2 with e2;rw [e2];exact hb
structure Iz (w0:World) (g:Nat) (t:af) (lv uv:Value) (wr:World) (u:Nat) (qs:List gJ) (R:Nat→Prop):Prop where
 hu:u≤t.length
 ue:uv=.int .i64 (u:Int)
 sp:ap t=(qs.map (·.x)++(ap (t.drop u)).1,u+(ap (t.drop u)).2.1,(ap (t.drop u)).2.2)
 rows:gz wr w0.heap.size R lv qs
 prs:bn wr (jY g) g .idle
 gb:w0.heap.size≤g
 rb:∀ x,R x→w0.heap.size≤x∧x < wr.heap.size∧x≠g
 vb:∀ b,lv.ownBlock=some b→b≠g
 sm:Sm No w0 wr
 len:qs.length≤u
theorem Ak(w:World)(A:Option Addr)(cp:Nat)(t:af)(hR:ar w A (t.map aM))(hn:A=none→t.length=0∧cp=0)(hcp:t.length≤cp)(hl:t.length≤100000)(hcp2:cp≤140737488351232):
 Calls Tryz.prog 9 #[.slice A t.length cp] w (nV w t):=by
 have HG:=ns (BT trivial (BT hR (BT hn (BT hcp hl))));clear hR hn;go_in;obtain⟨b3,hb3⟩:=Iu w.heap.size;obtain⟨w0,hw0⟩:∃ w0,w.alloc (.cells #[.int .i64 0,.int .i64 0,.int .i64 0] 32)=w0:=⟨_,rfl⟩;have hs0:Sm No w w0:=by rw [←hw0];exact(Sm.refl No w).alloc _
 have hb0:Bk w0 b3 32 #[.int .i64 0,.int .i64 0,.int .i64 0]:=by rw [←hw0,←hb3];exact Bk.new w _ _
 have H0:=ns (BT hw0 (BT hb3 (BT hs0 hb0)));clear hw0 hb3 hs0 hb0;go_upto_region 3 with fail;rw [H0.out.1,H0.out.2.1];obtain⟨g,hg1⟩:=Iu (b3+1);have hgg:w0.heap.size=g:=by rw [←H0.out.1,World.size_alloc,H0.out.2.1,hg1]
 rw [hg1];obtain⟨w1,hw1⟩:∃ w1,w0.alloc (.cells #[.int .i64 0,.int .i64 0,.pointer none,.slice none 0 0,.int .i64 0,.int .i64 0,.bool false,.bool false,.slice none 0 0,.pointer none,.bool false] 69)=w1:=⟨_,rfl⟩;have hs1:Sm No w0 w1:=by rw [←hw1];exact(Sm.refl No w0).alloc _
 have hb1:Bk w1 g 69 #[.int .i64 0,.int .i64 0,.pointer none,.slice none 0 0,.int .i64 0,.int .i64 0,.bool false,.bool false,.slice none 0 0,.pointer none,.bool false]:=by rw [←hw1,←hgg];exact Bk.new w0 _ _
 have H1:=ns (BT (show bn w1 (jY g) g .idle from⟨⟨_,_,_,_,_,_,_,_,_,hb1⟩,rfl,fun x e=>by rw [e];exact hb1.lt⟩) (BT hs1 (BT hw1 hgg)));clear hs1 hb1 hw1;rw [H1.out.2.2.1];clear hg1;have hgz:w0.heap.size≤g:=by omega
 clear hgg;go_wp2_with fail
 go_loopw [4,6] (fun l u wr=>∃ k qs R,Iz w0 g t l u wr k qs R) (fun _ u _=>t.length+1-(intOf u).toNat)
 case atStart=>
  exact⟨0,[],fun _=>False,Nat.zero_le _,rfl,by simp,⟨World.ownsRow_nil _ _ _ _,(fun q hq=>by cases hq),(fun b e=>by cases e)⟩,H1.out.1,hgz,fun x e=>e.elim,fun b e=>(by cases e),H1.out.2.1,Nat.le_refl _⟩
 case round=>
  obtain⟨k,qs,R,hS⟩:=hrel;have hue:=hS.ue;subst hue;have hk:=hS.hu;have HS:=ns hS;clear hS;obtain⟨n,hn⟩:=Iu t.length;have HNn:=ns hn;rw [hn] at hk hcp ⊢;have j0:(0:Int)≤(k:Int):=by omega
  have j1:(k:Int)≤(n:Int):=by omega
  have j2:(k:Int)≤(cp:Int):=by omega
  clear hn;obtain⟨s',nn,hfd⟩:∃ s' nn,au .idle (t.drop k)=(s',nn):=⟨_,_,rfl⟩;have hdl:(t.drop k).length=n-k:=by rw [List.length_drop,HNn.out]
  have hgw:g < wr.heap.size:=HS.out.prs.lt g rfl;have hwz:w.heap.size≤w0.heap.size:=H0.out.2.2.1.size;have HFeed:=ns (fun (W:World) (hW:Sm No wr W) (A':Option Addr) (c':Nat) (hc:W.cell? ⟨wr.heap.size,0,none⟩=some (.slice A' (n-k) c')) (hrow:ar wr A' ((t.drop k).map aM)∧(∀ a,A'=some a→t.drop k≠[]→a.block < w.heap.size)∧n-k≤c'∧wr.heap.size < W.heap.size)=>
   show Calls Tryz.prog 25 #[.pointer (some ⟨g,0,none⟩),.slice (some ⟨wr.heap.size,0,none⟩) 1 1] W (nx W (jY g) g (s',nn)) from by
    have e:=sU W (jY g) g wr.heap.size .idle A' c' (t.drop k) (HS.out.prs.no hW) (by trivial) hrow.2.2.2 (fun e=>by have e:wr.heap.size=g:=e;omega) (by rw [hdl];exact hc) (hrow.1.no hW) (fun a ha hne e=>by
     have h1:=hrow.2.1 a ha hne;have e:a.block=g:=e;omega) (by rw [hdl];have:=HG.out.2.2.2.2;have:=HNn.out;omega)
    rw [hfd] at e;exact e)
  have hosd:bI s':=by have h:=kM (t.drop k) (s:=.idle) (by trivial);rw [hfd] at h;exact h
  have hMid:=ns (fun (W:World) (hW:Sm No wr W) (e:Ending) (w2:World) (h2:nx W (jY g) g (s',nn) e w2)=>show bn w2 (aA (jY g) wr w2) g s'∧bI s'∧Sm (jY g) wr w2 from
   ⟨h2.2.1.imp (fun x e=>e.imp id (fun e=>⟨Nat.le_trans hW.size e.1,e.2⟩)) (aA.lt HS.out.prs.lt (Nat.le_trans hW.size h2.2.2.size)),hosd,(hW.any (jY g)).tt h2.2.2⟩)
  have HFd:=ns hfd;clear hfd;have HGz:=ns (BT hgz (BT hgw hwz));clear hosd hgz hgw hwz;go_upto_region 4 with fail
  go_cut [7] from 12 to 17 (fun nv wx=>nv=.int .i64 (nn:Int)∧bn wx (aA (jY g) wr wx) g s'∧bI s'∧Sm (jY g) wr wx)
  case first=>
   have hrw:ar wr A (t.map aM):=(HG.out.2.1.no H0.out.2.2.1).no HS.out.sm;have HRw:=ns hrw;have HBl:=ns (show ∀ a,A=some a→t.length≠0→a.block < w.heap.size from fun a e hne=>by
    have h0:0 < t.length:=Nat.pos_of_ne_zero hne;obtain⟨bb,off,e2,hb,_⟩:=HG.out.2.1.at (j:=0) (u:=aM t[0]) (by rw [List.getElem?_map,List.getElem?_eq_getElem h0];rfl);rw [e] at e2;injection e2 with e2;subst e2;exact hb)
   clear hrw hdl
   cases hA:A with
   |none=>
    subst hA;have h0:=HG.out.2.2.1 rfl;have hn0:n=0:=by rw [←HNn.out];exact h0.1
    have hk0:k=0:=by omega
    have hc0:cp=0:=h0.2;subst hn0 hc0 hk0;clear h0 j0 j1 j2 hk hcp hcp2;have hsA:Sm No wr (wr.alloc (.cells #[.slice none 0 0] 22)):=(Sm.refl No wr).alloc _;have hbA:=Bk.new wr 22 #[.slice none 0 0];have HF:=ns (HFeed.out _ hsA none 0 (hbA.at 0 rfl) ⟨(fun j u hj=>by rw [List.drop_of_length_le (by rw [HNn.out];exact Nat.zero_le _)] at hj;simp at hj),(fun a e=>by cases e),Nat.le_refl _,hbA.lt⟩);clear hbA;go_wp2_with fail;refine HF.out.mono ?_;intro e w2 h2;have H2:=ns (hMid.out _ hsA e w2 h2);obtain⟨rfl, -⟩:=h2;go_wp2_with fail;go_meet;exact⟨rfl,H2.out⟩
   |some ad=>
    subst hA;by_cases hkc:k < cp
    ·have j3:(k:Int) < (cp:Int):=by omega
     have hsA:Sm No wr (wr.alloc (.cells #[.slice (some (ad.add k)) (n-k) (cp-k)] 22)):=(Sm.refl No wr).alloc _;have hbA:=Bk.new wr 22 #[.slice (some (ad.add k)) (n-k) (cp-k)];have HF:=ns (HFeed.out _ hsA (some (ad.add k)) (cp-k) (hbA.at 0 rfl) ⟨sG HRw.out,fun a e h=>by
      injection e with e;have h1:=HBl.out ad rfl (fun e0=>h (List.drop_of_length_le (by omega)));rw [←e];unfold Addr.add;split<;>exact h1,by omega,hbA.lt⟩)
     clear hbA;go_wp2_with fail;refine HF.out.mono ?_;intro e w2 h2;have H2:=ns (hMid.out _ hsA e w2 h2);obtain⟨rfl, -⟩:=h2;go_wp2_with fail;go_meet;exact⟨rfl,H2.out⟩
    ·have e1:k=cp:=by omega
     have e2:n=cp:=by omega
     subst e1;subst e2;clear hkc j0 j1 j2;have hsA:Sm No wr (wr.alloc (.cells #[.slice (some ad) 0 0] 22)):=(Sm.refl No wr).alloc _;have hbA:=Bk.new wr 22 #[.slice (some ad) 0 0];have HF:=ns (HFeed.out _ hsA (some ad) 0 (by rw [show n-n=0 from Nat.sub_self n];exact hbA.at 0 rfl) ⟨(fun j u hj=>by rw [List.drop_of_length_le (by rw [HNn.out];exact Nat.le_refl _)] at hj;simp at hj),(fun a e h=>absurd (List.drop_of_length_le (by rw [HNn.out];exact Nat.le_refl _)) h),by omega,hbA.lt⟩);clear hbA;go_wp2_with fail;refine HF.out.mono ?_;intro e w2 h2;have H2:=ns (hMid.out _ hsA e w2 h2);obtain⟨rfl, -⟩:=h2;go_wp2_with fail;go_meet;exact⟨rfl,H2.out⟩
  case rest=>
   obtain⟨rfl,hI2,hok2,hs2⟩:=hcut;obtain⟨hgz,hgw,hwz⟩:=HGz.out;have hrows2:gz wc w0.heap.size R u4 qs:=HS.out.rows.sm hs2 (fun x e=>(HS.out.rb x e).2.2) (fun b e=>HS.out.vb b e);have HC:=ns (BT hI2 (BT hok2 (BT hs2 hrows2)));have hb0c:=H0.out.2.2.2.sm ((HS.out.sm).trans hs2 (fun x hx e=>by have e:x=g:=e;omega)) (fun e=>e);have hc0:=hb0c.all;have hz0:=hb0c.fz;have hl0:=hb0c.lt;have HB0:=ns hb0c;have hs2z:=ns (BT hI2 hs2);have hnk:=kR (t.drop k) .idle;rw [HFd.out,hdl] at hnk;dsimp only at hnk;have HSz:=ns hnk;obtain⟨hdv,lnv,kv,lv,cv,xv,vBv,chv,cmv,hKc⟩:=hI2.ph;have hglc:=Bk.lt hKc;obtain⟨ph,hphe⟩:=Iu s'.phase;obtain⟨st,hste⟩:=Iu s'.status;rw [hphe,hste] at hKc;have HV:=ns (BT hphe hste);have p0:=Bk.at hKc 0 (v:=.int .i64 ph) rfl;have p1:=Bk.at hKc 1 (v:=.int .i64 st) rfl;have HKc:=ns hKc;have hnb3:b3≠g:=by have h2:b3 < w0.heap.size:=H0.out.2.2.2.lt;omega
   clear hI2 hok2 hs2 hrows2 hb0c hdl hphe hste hKc hgz hgw hwz;by_cases hph:ph=3
   ·obtain⟨hd,bd,rfl⟩:=gY (HV.out.1.trans hph);have HT:=ns (xq wc (aA (jY g) wr wc) g hd bd HC.out.1 HC.out.2.1);have hkn:IntKind.i64.wrap ((k:Int)+(nn:Int))=(k:Int)+(nn:Int):=IntWalk.i64_in _ (by have:=HG.out.2.2.2.2;have:=HNn.out;have:=HSz.out;omega);subst hph;go_wp2_with fail;refine HT.out.mono ?_;rintro e w3 ⟨v,rfl,hq3,hI3,hs3⟩;clear p0 p1;obtain⟨q,hqx,rfl,hqi⟩:=hq3.m;rw [show q.cells.toArray=#[.string ⟨q.x.1.method.toArray⟩,.int .i64 q.x.1.target.form,.string ⟨q.x.1.target.host.toArray⟩,.string ⟨q.x.1.target.path.toArray⟩,.string ⟨q.x.1.target.query.toArray⟩,.int .i64 q.x.1.minor,.slice q.a1 q.x.1.fields.length q.c1,.slice q.a2 q.x.2.length q.c2,.bool q.x.1.how.close,.bool q.x.1.how.expect] from rfl];obtain⟨b8,hb8⟩:=Iu w3.heap.size;obtain⟨w4,hw4⟩:∃ w4,w3.alloc (.cells #[.string ⟨q.x.1.method.toArray⟩,.int .i64 q.x.1.target.form,.string ⟨q.x.1.target.host.toArray⟩,.string ⟨q.x.1.target.path.toArray⟩,.string ⟨q.x.1.target.query.toArray⟩,.int .i64 q.x.1.minor,.slice q.a1 q.x.1.fields.length q.c1,.slice q.a2 q.x.2.length q.c2,.bool q.x.1.how.close,.bool q.x.1.how.expect] 62)=w4:=⟨_,rfl⟩;have hs4:Sm No w3 w4:=by rw [←hw4];exact(Sm.refl No w3).alloc _
    have hb4:Bk w4 b8 62 #[.string ⟨q.x.1.method.toArray⟩,.int .i64 q.x.1.target.form,.string ⟨q.x.1.target.host.toArray⟩,.string ⟨q.x.1.target.path.toArray⟩,.string ⟨q.x.1.target.query.toArray⟩,.int .i64 q.x.1.minor,.slice q.a1 q.x.1.fields.length q.c1,.slice q.a2 q.x.2.length q.c2,.bool q.x.1.how.close,.bool q.x.1.how.expect]:=by rw [←hw4,←hb8];exact Bk.new w3 _ _
    have hz3:=hs2z.out.2.size;have hI3:=hI3.one;have hgwc:wr.heap.size≤wc.heap.size:=hz3;obtain⟨hgz,hgw,hwz⟩:=HGz.out;have hu4:∀ b,u4.ownBlock=some b→w0.heap.size≤b∧b < wr.heap.size:=fun b e=>World.ownsRow.lt HS.out.rows.own b e;have hrows3:gz w3 w0.heap.size R u4 qs:=HC.out.2.2.2.sm hs3 (fun x e e2=>e2.elim (HS.out.rb x e).2.2 (fun e2=>by have:=(HS.out.rb x e).2.1;omega)) (fun b e e2=>e2.elim (HS.out.vb b e) (fun e2=>by have:=(hu4 b e).2;omega));have hn5:nn≤t.length:=by have:=HSz.out;have:=HNn.out;omega
    have H4:=ns (BT hw4 (BT hb8 (BT hs4 (BT hb4 (BT hrows3 (BT hs3 (BT hI3 (BT hqi (BT hqx hu4)))))))));have HOwn:=ns ((hrows3.no hs4).own.alloc (.cells #[.string ⟨q.x.1.method.toArray⟩,.int .i64 q.x.1.target.form,.string ⟨q.x.1.target.host.toArray⟩,.string ⟨q.x.1.target.path.toArray⟩,.string ⟨q.x.1.target.query.toArray⟩,.int .i64 q.x.1.minor,.slice q.a1 q.x.1.fields.length q.c1,.slice q.a2 q.x.2.length q.c2,.bool q.x.1.how.close,.bool q.x.1.how.expect] 62));have hb8n:∀ b,u4.ownBlock=some b→b≠b8:=fun b e e2=>by
     have h1:=(hu4 b e).2;have h2:=hs3.size;have h3:=hs2z.out.2.size;rw [e2,←hb8] at h1;omega
    have hb3c:=HB0.out.sm hs3 (fun e=>e.elim (fun e=>hnb3 e) (fun e=>by have h2:b3 < w0.heap.size:=H0.out.2.2.2.lt;have:=HS.out.sm.size;omega));have HB3:=ns (hb3c.sm hs4 (fun e=>e));have HB8:=ns (BT hb4 hb8n);have hql:qs.length≤1000000:=by have h1:=HS.out.len;have h2:=HG.out.2.2.2.2;have h3:=HNn.out;omega
    have hB4:w0.heap.size≤(w4.alloc (.cells #[.string ⟨q.x.1.method.toArray⟩,.int .i64 q.x.1.target.form,.string ⟨q.x.1.target.host.toArray⟩,.string ⟨q.x.1.target.path.toArray⟩,.string ⟨q.x.1.target.query.toArray⟩,.int .i64 q.x.1.minor,.slice q.a1 q.x.1.fields.length q.c1,.slice q.a2 q.x.2.length q.c2,.bool q.x.1.how.close,.bool q.x.1.how.expect] 62)).heap.size:=by have h1:=HS.out.sm.size;have h2:=hs4.size;have h5:=hs3.size;have h6:=hs2z.out.2.size;rw [World.size_alloc];omega
    have hone:∀ u∈(#[.string ⟨q.x.1.method.toArray⟩,.int .i64 q.x.1.target.form,.string ⟨q.x.1.target.host.toArray⟩,.string ⟨q.x.1.target.path.toArray⟩,.string ⟨q.x.1.target.query.toArray⟩,.int .i64 q.x.1.minor,.slice q.a1 q.x.1.fields.length q.c1,.slice q.a2 q.x.2.length q.c2,.bool q.x.1.how.close,.bool q.x.1.how.expect]:Array Value).toList,u.oneCell'=true:=fun u hu=>(List.all_eq_true.1 (rfl:((#[.string ⟨q.x.1.method.toArray⟩,.int .i64 q.x.1.target.form,.string ⟨q.x.1.target.host.toArray⟩,.string ⟨q.x.1.target.path.toArray⟩,.string ⟨q.x.1.target.query.toArray⟩,.int .i64 q.x.1.minor,.slice q.a1 q.x.1.fields.length q.c1,.slice q.a2 q.x.2.length q.c2,.bool q.x.1.how.close,.bool q.x.1.how.expect]:Array Value).toList.all (fun v=>v.oneCell'))=true)) u hu;have HOne:=ns (BT hone (BT hql hB4));clear hgz hgw hwz hgwc hz3 hs3 hI3 hqi hqx hw4 hb8 hs4 hb4 hrows3 hb8n hb3c hc0 hz0 hu4 hone hql hB4;go_upto_region 9 with fail;rw [H4.out.1,H4.out.2.1];go_upto_region 10 with (first|(refine bF rfl 62 _ rfl Tryz.underlying62 10 rH b8 rfl _ HB8.out.1 rfl ?_)|(at_builtin;refine aq rfl _ _ 30 62 rfl Tryz.underlying30 (.agg AL) 10 136 Ej rfl (by decide) (by decide) w0.heap.size qs.length u4 (dw qs) rfl HOwn.out w4.heap.size #[.string ⟨q.x.1.method.toArray⟩,.int .i64 q.x.1.target.form,.string ⟨q.x.1.target.host.toArray⟩,.string ⟨q.x.1.target.path.toArray⟩,.string ⟨q.x.1.target.query.toArray⟩,.int .i64 q.x.1.minor,.slice q.a1 q.x.1.fields.length q.c1,.slice q.a2 q.x.2.length q.c2,.bool q.x.1.how.close,.bool q.x.1.how.expect] rfl (Bk.new w4 _ _) rfl HOne.out.1 HOne.out.2.1 HOne.out.2.2 ?_;intro v6 w6 hown6 hs6 hv6;have hb86:=(HB8.out.1.alloc (.cells #[.string ⟨q.x.1.method.toArray⟩,.int .i64 q.x.1.target.form,.string ⟨q.x.1.target.host.toArray⟩,.string ⟨q.x.1.target.path.toArray⟩,.string ⟨q.x.1.target.query.toArray⟩,.int .i64 q.x.1.minor,.slice q.a1 q.x.1.fields.length q.c1,.slice q.a2 q.x.2.length q.c2,.bool q.x.1.how.close,.bool q.x.1.how.expect] 62)).sm hs6 (fun e=>HB8.out.2 _ e rfl);have hc86:=hb86.at 8 (v:=.bool q.x.1.how.close) rfl;have hl86:=hb86.lt;have H6:=ns (BT hown6 (BT hs6 hv6));clear hown6 hs6 hv6));obtain⟨cl,hcl⟩:=Iu q.x.1.how.close;rw [hcl] at hc86;have HCl:=ns hcl;clear hcl;obtain⟨hw4,hb8,hs4,hb4,hrows3,hs3,hI3,hqi,hqx,hu4⟩:=H4.out;obtain⟨hown6,hs6,hv6⟩:=H6.out;have z1:=HS.out.sm.size;have z2:=HC.out.2.2.1.size;have z3:=hs3.size;have z4:=hs4.size;have hsB:Sm No w4 (w4.alloc (.cells #[.string ⟨q.x.1.method.toArray⟩,.int .i64 q.x.1.target.form,.string ⟨q.x.1.target.host.toArray⟩,.string ⟨q.x.1.target.path.toArray⟩,.string ⟨q.x.1.target.query.toArray⟩,.int .i64 q.x.1.minor,.slice q.a1 q.x.1.fields.length q.c1,.slice q.a2 q.x.2.length q.c2,.bool q.x.1.how.close,.bool q.x.1.how.expect] 62)):=(Sm.refl No w4).alloc _;have z5:=hsB.size;have z6:=hs6.size;have gb:=HS.out.gb;obtain⟨hgz,hgw,hwz⟩:=HGz.out;have hsp:=HS.out.sp;have hs0c:Sm No w0 w3:=(HS.out.sm.trans HC.out.2.2.1 (fun x hx e=>by have e:x=g:=e;omega)).trans hs3 (fun x hx e=>e.elim (fun e=>by have e:x=g:=e;omega) (fun e=>by omega));have hs06:Sm No w0 w6:=((hs0c.tt hs4).tt hsB).fresh hs6 (fun b e=>(hu4 b e).1);have hown:w6.ownsRow w0.heap.size 62 10 v6 (qs++[q]).length (dw (qs++[q])):=by rw [ku,List.length_append];exact hown6
    obtain⟨R3,hR3e⟩:∃ R3:Nat→Prop,(fun x=>wc.heap.size≤x∧x < w3.heap.size)=R3:=⟨_,rfl⟩;rw [hR3e] at hqi;have hR3b:∀ x,R3 x→w0.heap.size≤x∧x < w3.heap.size∧u4.ownBlock≠some x:=fun x e=>by
     rw [←hR3e] at e;have e:wc.heap.size≤x∧x < w3.heap.size:=e;exact⟨by omega,e.2,fun e3=>by have:=(hu4 x e3).2;omega⟩
    have hR3g:∀ x,R3 x→x≠g:=fun x e=>by
     rw [←hR3e] at e;have e:wc.heap.size≤x∧x < w3.heap.size:=e;omega
    have hRu:∀ x,R x→u4.ownBlock≠some x:=fun x e e2=>HS.out.rows.apart x e2 e;have hrows6:gz w6 w0.heap.size (fun x=>R x∨R3 x) v6 (qs++[q]):=by
     refine⟨hown,fun y hy=> ?_,fun b e=> ?_⟩
     ·rcases List.mem_append.1 hy with hy|hy
      ·exact((((hrows3.ok y hy).sm hs4 (fun _ _ e=>e)).sm hsB (fun _ _ e=>e)).sm hs6 (fun x e e2=>hRu x e e2)).imp (fun x e=>Or.inl e)
      ·rw [List.mem_singleton] at hy;subst hy;exact(((hqi.sm hs4 (fun _ _ e=>e)).sm hsB (fun _ _ e=>e)).sm hs6 (fun x e e2=>(hR3b x e).2.2 e2)).imp (fun x e=>Or.inr e)
     ·rcases hv6 with hv|hv
      ·rw [hv] at e;rintro(e2|e2)
       ·exact hRu b e2 e
       ·exact(hR3b b e2).2.2 e
      ·rw [hv] at e;injection e with e;rintro(e2|e2)
       ·have:=(HS.out.rb b e2).2.1;omega
       ·have:=(hR3b b e2).2.1;omega
    have hRb:∀ x,(R x∨R3 x)→w0.heap.size≤x∧x < w6.heap.size:=by
     rintro x (e|e)
     ·have:=HS.out.rb x e;omega
     ·have:=hR3b x e;omega
    have HX:=ns (BT hs06 (BT hrows6 hRb));have h3b:b3 < w0.heap.size:=H0.out.2.2.2.lt;have hb36:=(HB3.out.sm hsB (fun e=>e)).sm hs6 (fun e=>by have h1:=(hu4 _ e).1;omega);have HB36:=ns hb36;have hc36:=hb36.all;have hz36:=hb36.fz;have hl36:=hb36.lt
    cases cl with
    |true=>
     have hspL:=nU HFd.out (show hd.how.close=true from by have:=HCl.out;rw [hqx] at this;exact this);rw [hspL] at hsp;have HSp:=ns hsp;clear hsp hspL hown hrows6 hRb hs06 hb36 hs0c hR3b hRu hown6 hs6 hv6 hw4 hb8 hs4 hb4 hrows3 hs3 hI3 hqi hsB hgz hgw hwz gb;go_wp2_with fail;have hbF:=(((HB36.out.set 0 (.int .i64 ((k:Int)+(nn:Int)))).set 1 (.int .i64 0)).set 2 (.int .i64 0));have d0:=hbF.at 0 (v:=.int .i64 ((k:Int)+(nn:Int))) rfl;have d1:=hbF.at 1 (v:=.int .i64 0) rfl;have d2:=hbF.at 2 (v:=.int .i64 0) rfl;have hb3:w.heap.size=b3:=H0.out.2.1;have hsF:Sm (fun x=>x=b3) w6 _:=(((Sm.refl (fun x=>x=b3) w6).set1 0 (.int .i64 ((k:Int)+(nn:Int)))).set1 1 (.int .i64 0)).set1 2 (.int .i64 0);refine bodyPost_ret (v:=.tuple #[v6,.agg #[.int .i64 ((k:Int)+(nn:Int)),.int .i64 0,.int .i64 0]]) (by simp [results,Tryz.results9,go_sem,d0,d1,d2]) rfl ⟨v6,qs++[q],fun x=>R x∨R3 x,?_,?_,?_,?_,?_⟩
     ·rw [HSp.out];rfl
     ·rw [HSp.out];simp [hqx]
     ·have e1:gz _ w0.heap.size (fun x=>R x∨R3 x) v6 (qs++[q]):=HX.out.2.1.sm hsF (fun x e e2=>by have:=(HX.out.2.2 x e).1;omega) (fun b e e2=>by have:=(World.ownsRow.lt HX.out.2.1.own b e).1;omega);exact⟨bc e1.own (fun b e=>by have:=(World.ownsRow.lt HX.out.2.1.own b e).1;omega),e1.ok,e1.apart⟩
     ·intro x e;have h1:=HX.out.2.2 x e;have h4:=hsF.size;omega
     ·exact((H0.out.2.2.1).tt HX.out.1).fresh hsF (fun b e=>by omega)
    |false=>
     have hspM:=nw HFd.out (show hd.how.close=false from by have:=HCl.out;rw [hqx] at this;exact this);rw [hspM] at hsp;have HSp:=ns hsp;have hprs:bn w6 (jY g) g .idle:=((hI3.no hs4).no hsB).out1 hs6 (fun e2=>HS.out.vb _ e2 rfl);have HP6:=ns (BT hprs (BT hu4 (BT hv6 (BT hR3b hR3g))));clear hprs hsp hspM hown hrows6 hRb hs06 hb36 hs0c hR3b hR3g hRu hown6 hs6 hv6 hw4 hb8 hs4 hb4 hrows3 hs3 hI3 hqi hsB hc36 hz36 hl36 hgz hgw hwz gb;have hnp:=(gM HFd.out rfl).1;clear hqx;go_wp2_with fail;obtain⟨hprs,hu4,hv6,hR3b,hR3g⟩:=HP6.out;obtain⟨hgz,hgw,hwz⟩:=HGz.out;refine⟨⟨k+nn,qs++[q],fun x=>R x∨R3 x,by have h1:=HSz.out;have h2:=HNn.out;omega,by go_num,?_,HX.out.2.1,hprs,HS.out.gb,?_,?_,HX.out.1,?_⟩,?_⟩
     ·rw [HSp.out,List.drop_drop,List.map_append,List.map_singleton,H4.out.2.2.2.2.2.2.2.2.1];simp only [List.append_assoc,List.singleton_append,Prod.mk.injEq,true_and,and_true];omega
     ·rintro x (e|e)
      ·have h1:=HS.out.rb x e;exact⟨h1.1,by omega,h1.2.2⟩
      ·have h1:=hR3b x e;exact⟨h1.1,by omega,hR3g x e⟩
     ·intro b e;rcases hv6 with hv|hv
      ·rw [hv] at e;exact HS.out.vb b e
      ·rw [hv] at e;injection e with e;omega
     ·have h1:=HS.out.len;rw [List.length_append,List.length_singleton];omega
     ·simp only [intOf];have h1:=HNn.out;have h2:=HSz.out;omega
   ·have e1:(ph != 3)=true:=by simpa using hph
    have e0:(ph==3)=false:=by simpa using hph
    have HPh:=ns (show s'.phase≠3 from by rw [HV.out.1];exact hph);have hnb3':g≠b3:=fun e=>hnb3 e.symm;clear hph;have b0:=hc0 0;have b1:=hc0 1;have b2:=hc0 2;go_upto_region 6 with fail
    go_region
    all_goals
     go_wp2_with fail;have hbF:=((((HB0.out.set 0 (.int .i64 (k:Int))).set 1 (.int .i64 ph)).set 2 (.int .i64 st))).drew;have d0:=hbF.at 0 (v:=.int .i64 (k:Int)) rfl;have d1:=hbF.at 1 (v:=.int .i64 ph) rfl;have d2:=hbF.at 2 (v:=.int .i64 st) rfl;obtain⟨hgz,hgw,hwz⟩:=HGz.out;have hsp:=HS.out.sp;rw [nR HFd.out HPh.out] at hsp;have hb3:w.heap.size=b3:=H0.out.2.1;have hs0:=H0.out.2.2.1;have hs0c:Sm No w0 wc:=HS.out.sm.trans HC.out.2.2.1 (fun x hx e=>by have e:x=g:=e;omega);have hsF:Sm (fun x=>x=b3) wc _:=((((Sm.refl (fun x=>x=b3) wc).set1 0 (.int .i64 (k:Int))).set1 1 (.int .i64 ph)).set1 2 (.int .i64 st)).drew;have hz0w:w.heap.size < w0.heap.size:=by rw [hb3];exact H0.out.2.2.2.lt
     refine bodyPost_ret (v:=.tuple #[u4,.agg #[.int .i64 (k:Int),.int .i64 ph,.int .i64 st]]) (by simp [results,Tryz.results9,go_sem,d0,d1,d2]) rfl ⟨u4,qs,R,?_,?_,?_,?_,?_⟩
     ·rw [hsp];unfold ul;dsimp only;rw [HV.out.1,HV.out.2,Nat.add_zero]
     ·rw [hsp];simp
     ·have e1:gz _ w0.heap.size R u4 qs:=HC.out.2.2.2.sm hsF (fun x e e2=>by have:=(HS.out.rb x e).1;omega) (fun b e e2=>by have:=(World.ownsRow.lt HS.out.rows.own b e).1;omega);exact⟨bc e1.own (fun b e=>by have:=(World.ownsRow.lt HS.out.rows.own b e).1;omega),e1.ok,e1.apart⟩
     ·intro x e;have h1:=HS.out.rb x e;have h2:=HC.out.2.2.1.size;have h4:=hsF.size;omega
     ·exact(hs0.tt hs0c).fresh hsF (fun b e=>by omega)
end Go.Proofs.YtcflkcbogofgbaaGreatDoor
