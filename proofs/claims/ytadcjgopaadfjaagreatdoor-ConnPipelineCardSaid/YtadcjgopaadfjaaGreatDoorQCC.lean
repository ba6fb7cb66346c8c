import Derived.Test.YtadcjgopaadfjaaGreatDoorQCB
import Derived.Test.YtadcjgopaadfjaaGreatDoorQPH
import Derived.Test.YtadcjgopaadfjaaGreatDoorQM
import Derived.Test.YtadcjgopaadfjaaGreatDoorQOR
set_option maxHeartbeats 16000000
set_option maxRecDepth 100000
namespace Go.Proofs.YtadcjgopaadfjaaGreatDoor
open Go.RowKit Go.Proofs
theorem Co{w:World}{R:Nat→Prop}{q:tG}(h:q.In w R)(ho:cK (.whole q.x.1 q.x.2))(hz:iz (.whole q.x.1 q.x.2)):E7 w (CA q.x) q.a1 q.c1 q.a2 q.c2:=by
 refine⟨h.r1,h.n1,h.r2,h.n2,?_,?_,?_,?_,?_,?_⟩
 ·show q.x.1.method.toArray.size≤30000;rw [List.size_toArray];have:=hz.1;omega
 ·show q.x.1.target.path.toArray.size≤30000;rw [List.size_toArray];have:=hz.2.1;omega
 ·show q.x.1.target.query.toArray.size≤30000;rw [List.size_toArray];have:=hz.2.2;omega
 ·intro x hx;have h1:=qh (l:=q.x.1.fields) hx;have h2:=ho.1.ok.light.size;omega
 ·show q.x.1.fields.length≤30000;have:=ho.1.ok.len;omega
 ·show q.x.2.length≤30000;have:=ho.2;omega
structure Ed (K:Kn):Prop where
 site:cD K.T=0
 sm:nM K.T
theorem Db{w0 w:World}{D:Nat→Nat→Prop}{c:Nat}{z:Zn}{K:Kn}{s:Cn}(h:aq w0 w D c z K s){hd:Hd}{b:ah}(hp:s.p=.whole hd b):
 Calls Tryz.prog 100 #[.pointer (some ⟨z.gp,0,none⟩)] w fun e w'=>∃ q D' R,q.x=(hd,b)∧e=.returned (.tuple #[.agg q.cells.toArray,.int .i64 0])∧tG.In w' R q∧(∀ y,R y→¬ck D' y)∧(∀ y,R y→y < w'.heap.size)∧aq w0 w' D' c z K {s with p:=.idle}∧aZ D w D' w':=by
 have hI:=h.pp;have ho:=h.ok;rw [hp] at hI ho;refine(zX w (D 5) z.gp hd b hI ho).mono ?_;rintro e w' ⟨v,R,P,rfl,hv,hpp,hP,hR,hs⟩;obtain⟨q,hx,rfl,hq⟩:=hv.m;have hPn:∀ x,P x→D 5 x∨w.heap.size≤x:=fun x e=>(hP x e).elim (fun e=>Or.inl (e ▸ hI.og)) Or.inr;obtain⟨hI',hG⟩:=h.setP hs hpp hPn (by trivial) (by trivial);refine⟨q,_,R,hx,rfl,hq,fun y hy hD=> ?_,fun y hy=> ?_,hI',hG⟩
 ·obtain⟨h1,h2⟩:=hR y hy;obtain⟨k,e|e⟩:=hD
  ·rcases h1 with h1|h1
   ·exact h.reg.ap2 e.1 e.2 h1
   ·have:=h.reg.lt k y e.2;omega
  ·exact h2 e.2
 ·rcases (hR y hy).1 with h1|h1
  ·exact Nat.lt_of_lt_of_le (h.reg.lt 5 y h1) hs.size
  ·exact h1.2
set_option linter.unusedSimpArgs false in
theorem rD(w0 w:World)(D:Nat→Nat→Prop)(c:Nat)(z:Zn)(K:Kn)(s:Cn)(h:aq w0 w D c z K s)(hK:Ed K)(hf:fD K s=false)(he:s.ending=false)(hd:Hd)(b:ah)(hp:s.p=.whole hd b)(hpa:(co K.T (CA (hd,b))).parts=[])(htk:s.taken≤1000000)(hr:zR s (Ax K.T s.quitting (hd,b)).length):
 Calls Tryz.prog 67 #[.pointer (some ⟨c,0,none⟩)] w (dN w0 w D c z K true (s.take K hd b)):=by
 have hok:=h.ok;have hsz:=h.sz;rw [hp] at hok hsz;have HFd:=aa (dH w0 w D c z K s h hr.ps);rw [hf] at HFd;have HI:=aa (ab h (ab hK (ab hpa (ab hr (ab hok hsz)))));have HC0:=aa (fun (W:World) (hs:Sm No w W)=>(show W.cell? ⟨c,25,none⟩=some (.bool false)∧W.cell? ⟨c,19,none⟩=some (.pointer (some ⟨z.gp,0,none⟩)) from⟨((h.no hs).bk.at 25 (v:=.bool s.ending) rfl).trans (by rw [he]),(h.no hs).bk.at 19 rfl⟩));have HP:=aa (fun (W:World) (hs:Sm No w W)=>dx W (D 5) z.gp s.p (h.no hs).pp);have HT:=aa (fun (W:World) (hs:Sm No w W)=>Db (h.no hs) hp);have hcl:=h.bk.lt;rw [hp] at HP;unfold cP.phase at HP;dsimp only at HP;clear hf h hok hsz hK hpa hr;go_in;go_wp2_with fail;refine HFd.out.mono ?_;rintro e w1 ⟨rfl,hs1⟩;obtain⟨c25,c19⟩:=HC0.out w1 hs1;have hcl1:=Nat.lt_of_lt_of_le hcl hs1.size;have HP1:=aa (HP.out w1 hs1);have HT1:=aa (HT.out w1 hs1);have H1:=aa hs1;clear hs1;go_wp2_with (first
  |(go_at_call 68;refine HP1.out.mono ?_;rintro e w2 ⟨rfl,rfl⟩))
 refine HT1.out.mono ?_;rintro e w2 ⟨q,D2,R,hx,rfl,hq,hRD,hRl,hI2,hG2⟩;obtain⟨⟨hd',b'⟩,a1,c1,a2,c2⟩:=q;dsimp only at hx;obtain⟨rfl,rfl⟩:hd'=hd∧b'=b:=by injection hx with e1 e2;exact⟨e1,e2⟩
 unfold tG.cells;dsimp only;obtain⟨Q,hQ⟩:=ai (CA (hd',b'));have hQc:(#[Value.string ⟨hd'.method.toArray⟩,.int .i64 hd'.target.form,.string ⟨hd'.target.host.toArray⟩,.string ⟨hd'.target.path.toArray⟩,.string ⟨hd'.target.query.toArray⟩,.int .i64 hd'.minor,.slice a1 hd'.fields.length c1,.slice a2 b'.length c2,.bool hd'.how.close,.bool hd'.how.expect]:Array Value)=#[.string Q.m,.int .i64 Q.form,.string Q.host,.string Q.path,.string Q.query,.int .i64 Q.minor,.slice a1 Q.fs.length c1,.slice a2 Q.body.length c2,.bool Q.close,.bool Q.expect]:=by rw [←hQ];rfl
 have H2:=aa (ab hq (ab hRD (ab hRl (ab hI2 ((aZ.no D H1.out).trans hG2)))));have hcl2:=hI2.bk.lt;have c30:=hI2.bk.at 30 (v:=.int .i64 (s.taken:Int)) rfl;have z30:=hI2.bk.fz 30;have c28:=hI2.bk.at 28 (v:=.bool s.word) rfl;have z28:=hI2.bk.fz 28;have i1:IntKind.i64.wrap ((s.taken:Int)+1)=(s.taken:Int)+1:=IntWalk.i64_in _ (by omega);clear hq hRD hRl hI2 hG2 c25 c19 hx;rw [hQc];clear hQc;have HQ:=aa hQ;clear hQ;obtain⟨m,form,host,path,query,minor,fs,body,close,expect⟩:=Q;dsimp only;obtain⟨nf,hnf⟩:∃ n,fs.length=n:=⟨_,rfl⟩;obtain⟨nb,hnb⟩:∃ n,body.length=n:=⟨_,rfl⟩;rw [hnf,hnb];have HN:=aa (ab hnf hnb);clear hnf hnb;go_upto_region 10 with fail;obtain⟨b7,hb7⟩:=ai w2.heap.size;obtain⟨w6,hw6⟩:=ai ((w2.setCell ⟨c,30,none⟩ (.int .i64 ((s.taken:Int)+1))).setCell ⟨c,28,none⟩ (.bool false));rw [hb7,hw6];obtain⟨w7,hw7⟩:∃ w7,w6.alloc (.cells #[.string m,.int .i64 form,.string host,.string path,.string query,.int .i64 minor,.slice a1 nf c1,.slice a2 nb c2,.bool close,.bool expect] 172)=w7:=⟨_,rfl⟩;rw [hw7];have hs6:Sm (fun x=>x=c) w2 w6:=by rw [←hw6];exact((Sm.refl _ w2).set1 30 _).set1 28 _
 have hz6:w6.heap.size=b7:=by rw [←hw6,←hb7];simp
 obtain⟨hI6,hG6⟩:=H2.out.2.2.2.1.setC hs6 {s with p:=.idle,taken:=s.taken+1,word:=false} (by rw [←hw6];exact((H2.out.2.2.2.1.bk.set 30 _).set 28 _).eq rfl) rfl;have hs7:Sm No w6 w7:=by rw [←hw7];exact(Sm.refl No w6).alloc _
 have hb:Bk w7 b7 172 #[.string m,.int .i64 form,.string host,.string path,.string query,.int .i64 minor,.slice a1 nf c1,.slice a2 nb c2,.bool close,.bool expect]:=by rw [←hw7,←hz6];exact Bk.new w6 _ _
 have hq7:=(H2.out.1.sm hs6 (fun x hx e=>H2.out.2.1 x hx ⟨1,by rw [e];exact H2.out.2.2.2.1.dc⟩)).sm hs7 (fun _ _ e=>e);have hro:E7 w7 ⟨m,form,host,path,query,minor,fs,body,close,expect⟩ a1 c1 a2 c2:=by
  have:=Co hq7 HI.out.2.2.2.2.1 HI.out.2.2.2.2.2;rw [HQ.out] at this;exact this
 have hnb7:¬ck D2 b7:=fun ⟨k,e⟩=>by have:=H2.out.2.2.2.1.reg.lt k _ e;omega
 have hI7:=hI6.no hs7;have hG7:=H2.out.2.2.2.2.trans (hG6.trans (aZ.no D2 hs7));clear hw6 hw7 hb7 hs6 hz6 hI6 hG6 hq7;obtain⟨qt,hqt⟩:∃ x,s.quitting=x:=⟨_,rfl⟩;have HQt:=aa hqt;have HC:=aa (fun (W:World) (h:Sm No w7 W)=>show W.cell? ⟨c,17,none⟩=some (.pointer (some ⟨z.gs,0,none⟩))∧W.cell? ⟨c,24,none⟩=some (.bool qt)∧W.cell? ⟨b7,0,none⟩=some (.string m)∧W.cell? ⟨b7,1,none⟩=some (.int .i64 form)∧W.cell? ⟨b7,2,none⟩=some (.string host)∧W.cell? ⟨b7,3,none⟩=some (.string path)∧W.cell? ⟨b7,4,none⟩=some (.string query)∧W.cell? ⟨b7,5,none⟩=some (.int .i64 minor)∧W.cell? ⟨b7,6,none⟩=some (.slice a1 nf c1)∧W.cell? ⟨b7,7,none⟩=some (.slice a2 nb c2)∧W.cell? ⟨b7,8,none⟩=some (.bool close)∧W.cell? ⟨b7,9,none⟩=some (.bool expect) from
  have q:=hb.sm h (fun e=>e);have i:=hI7.no h
  ⟨i.bk.at 17 rfl,(i.bk.at 24 (v:=.bool s.quitting) rfl).trans (by rw [hqt]),q.at 0 rfl,q.at 1 rfl,q.at 2 rfl,q.at 3 rfl,q.at 4 rfl,q.at 5 rfl,q.at 6 rfl,q.at 7 rfl,q.at 8 rfl,q.at 9 rfl⟩)
 have HC9:=aa (fun (w8:World) (h8:Sm No w7 w8) (W:World) (D9:Nat→Nat→Prop) (t:ah) (e:Bool) (i:aq w0 W D9 c z K (Cn.lay {s with p:=.idle,taken:=s.taken+1,word:=false} t e)) (g:aZ D2 w8 D9 W)=>show W.cell? ⟨c,17,none⟩=some (.pointer (some ⟨z.gs,0,none⟩))∧W.cell? ⟨c,24,none⟩=some (.bool qt)∧W.cell? ⟨b7,0,none⟩=some (.string m)∧W.cell? ⟨b7,1,none⟩=some (.int .i64 form)∧W.cell? ⟨b7,2,none⟩=some (.string host)∧W.cell? ⟨b7,3,none⟩=some (.string path)∧W.cell? ⟨b7,4,none⟩=some (.string query)∧W.cell? ⟨b7,5,none⟩=some (.int .i64 minor)∧W.cell? ⟨b7,6,none⟩=some (.slice a1 nf c1)∧W.cell? ⟨b7,7,none⟩=some (.slice a2 nb c2)∧W.cell? ⟨b7,8,none⟩=some (.bool close)∧W.cell? ⟨b7,9,none⟩=some (.bool expect) from
  have q:=(hb.sm h8 (fun e=>e)).sm g.sm hnb7
  ⟨i.bk.at 17 rfl,(i.bk.at 24 (v:=.bool s.quitting) rfl).trans (by rw [hqt]),q.at 0 rfl,q.at 1 rfl,q.at 2 rfl,q.at 3 rfl,q.at 4 rfl,q.at 5 rfl,q.at 6 rfl,q.at 7 rfl,q.at 8 rfl,q.at 9 rfl⟩)
 have hsv:=vV w7.drew (hI7.reg.g.no (Sm.refl No w7).drew) (D2 4) z.gs K.T (hI7.si.no (Sm.refl No w7).drew) (AN HI.out.2.1.site) HI.out.2.1.sm ⟨m,form,host,path,query,minor,fs,body,close,expect⟩ a1 c1 a2 c2 ⟨hro.1.no (Sm.refl No w7).drew,hro.2.1,hro.2.2.1.no (Sm.refl No w7).drew,hro.2.2.2⟩;unfold DD at hsv;dsimp only at hsv;rw [HN.out.1,HN.out.2] at hsv;have HSv:=aa hsv;have hmi: -1000000≤minor∧minor≤1000000:=by
  have e:(CA (hd',b')).minor=hd'.minor:=rfl;rw [HQ.out] at e;have e:minor=hd'.minor:=e;rcases HI.out.2.2.2.2.1.1.ok.minor with e2|e2<;>omega
 have hans:∀ qt,Ax K.T qt (hd',b')=gw (co K.T ⟨m,form,host,path,query,minor,fs,body,close,expect⟩) (af m==fo) minor (close||qt):=fun qt=>by
  unfold Ax;have e1:af m=hd'.method:=by
   have e:(CA (hd',b')).m=⟨hd'.method.toArray⟩:=rfl;rw [HQ.out] at e;have e:m=⟨hd'.method.toArray⟩:=e;rw [e];exact eA _
  have e2:hd'.minor=minor:=by
   have e:(CA (hd',b')).minor=hd'.minor:=rfl;rw [HQ.out] at e;exact e.symm
  have e3:hd'.how.close=close:=by
   have e:(CA (hd',b')).close=hd'.how.close:=rfl;rw [HQ.out] at e;exact e.symm
  rw [HQ.out,e1];dsimp only;rw [e2,e3]
 have hne:∀ qt,Ax K.T qt (hd',b')≠[]:=fun qt=>by
  rw [hans qt];exact(sC (Cw _ (AA K.T _)).1).ne
 have HLy:=aa (fun (w8:World) (h8:Sm No w7 w8) (B:Nat) (v:Value) (hv:im w8 B v (co K.T ⟨m,form,host,path,query,minor,fs,body,close,expect⟩)) (e:Bool) (hee:(close||qt)=e)=>nx w0 w8 D2 c z K {s with p:=.idle,taken:=s.taken+1,word:=false} (hI7.no h8) B v _ hv (by have:=pj HI.out.2.1.site HI.out.2.2.2.2.1;show hY _;rw [←HQ.out];exact this) (by rw [←HQ.out];exact HI.out.2.2.1) (af m==fo) e minor hmi (Ax K.T qt (hd',b')) (by rw [hans qt,hee]) (hne qt) ⟨by rw [←hqt];exact HI.out.2.2.2.1.b,HI.out.2.2.2.1.ps,HI.out.2.2.2.1.last,HI.out.2.2.2.1.laid⟩);have HG:=aa hG7;have HE3:=aa (show hd'.how.close=close from by
  have e:(CA (hd',b')).close=hd'.how.close:=rfl;rw [HQ.out] at e;exact e.symm)
 have k7:=HC.out _ (Sm.refl No w7);have k7d:=HC.out _ (Sm.refl No w7).drew;have kl7:=hb.lt;have hcl7:=hI7.bk.lt;obtain⟨hdB,hhd⟩:∃ x,(af m==fo)=x:=⟨_,rfl⟩;rw [hhd] at HLy;have hd1:(m.toList==[72,69,65,68])=hdB:=by rw [←hhd,ByteArray.toList_eq];rfl
 obtain⟨R8,hR8⟩:=ai (co K.T ⟨m,form,host,path,query,minor,fs,body,close,expect⟩);rw [hR8] at HSv HLy;clear hs7 hb hro hnb7 hI7 hG7 hsv hmi hans hne hhd hqt hR8 c30 z30 c28 z28;obtain⟨gq,gs,gr,gp,gm⟩:=z;dsimp only at HSv HC HC9 k7 k7d
 cases close with
 |false=>
  have HLy1:=aa (fun w8 h8 B v hv=>HLy.out w8 h8 B v hv qt rfl)
  go_region_held3 (fun w'=>w'.cell? ⟨c,17,none⟩=some (.pointer (some ⟨gs,0,none⟩))∧w'.cell? ⟨c,24,none⟩=some (.bool qt)∧w'.cell? ⟨b7,0,none⟩=some (.string m)∧w'.cell? ⟨b7,1,none⟩=some (.int .i64 form)∧w'.cell? ⟨b7,2,none⟩=some (.string host)∧w'.cell? ⟨b7,3,none⟩=some (.string path)∧w'.cell? ⟨b7,4,none⟩=some (.string query)∧w'.cell? ⟨b7,5,none⟩=some (.int .i64 minor)∧w'.cell? ⟨b7,6,none⟩=some (.slice a1 nf c1)∧w'.cell? ⟨b7,7,none⟩=some (.slice a2 nb c2)∧w'.cell? ⟨b7,8,none⟩=some (.bool false)∧w'.cell? ⟨b7,9,none⟩=some (.bool expect)) (first|with_reducible exact k7d|with_reducible exact k7|with_reducible exact k8|with_reducible exact k9)
   (first
    |(go_at_call 101;refine HSv.out.mono ?_;rintro e w8 ⟨v8,rfl,hR8,hs8⟩;have hs78:=(Sm.refl No w7).drew.tt hs8;have k8:=HC.out _ hs78;have HR8:=aa (ab hR8 hs78);clear hR8 hs8 hs78)
    |(go_at_call 51;refine(HLy1.out w8 HR8.out.2 _ _ HR8.out.1).mono ?_;rintro e w9 ⟨rfl,D9,hI9,hG9⟩;have k9:=HC9.out w8 HR8.out.2 w9 D9 _ _ hI9 hG9;have HS9:=aa (ab hI9 ((aZ.no D2 HR8.out.2).trans hG9));clear hI9 hG9))
  all_goals
   go_wp2_with fail;go_ret;refine⟨rfl,D9,?_,HG.out.trans HS9.out.2⟩;have e:=HS9.out.1;rw [←HQt.out] at e;unfold Cn.take;rw [HE3.out];exact e
 |true=>
  have HLy1:=aa (fun w8 h8 B v hv=>HLy.out w8 h8 B v hv true rfl);refine wp_region_noPanic ?_;refine wp_region_held_drew (S:=fun w'=>w'.cell? ⟨c,17,none⟩=some (.pointer (some ⟨gs,0,none⟩))∧w'.cell? ⟨c,24,none⟩=some (.bool qt)∧w'.cell? ⟨b7,0,none⟩=some (.string m)∧w'.cell? ⟨b7,1,none⟩=some (.int .i64 form)∧w'.cell? ⟨b7,2,none⟩=some (.string host)∧w'.cell? ⟨b7,3,none⟩=some (.string path)∧w'.cell? ⟨b7,4,none⟩=some (.string query)∧w'.cell? ⟨b7,5,none⟩=some (.int .i64 minor)∧w'.cell? ⟨b7,6,none⟩=some (.slice a1 nf c1)∧w'.cell? ⟨b7,7,none⟩=some (.slice a2 nb c2)∧w'.cell? ⟨b7,8,none⟩=some (.bool true)∧w'.cell? ⟨b7,9,none⟩=some (.bool expect)) (by kernel_rfl) k7d (fun hHeld=> ?_);refine' aj (i:=0) (oi:=_) (d:=66) (v:=_) rfl rfl (by kernel_rfl) (by kernel_rfl) (by kernel_rfl) (fun _ _ _ h=>h) (Or.inl ⟨by kernel_rfl,?hy0⟩) (by assumption) ?rt0
  case hy0=>(intro w hSw;clear hSw;go_simp;try(with_reducible rfl))
  try simp only [Act.put,List.setIfInBounds_toArray,List.set_cons_zero,List.set_cons_succ]
  refine' aj (i:=1) (oi:=_) (d:=67) (v:=_) rfl rfl (by kernel_rfl) (by kernel_rfl) (by kernel_rfl) (fun _ _ _ h=>h) (Or.inl ⟨by kernel_rfl,?hy1⟩) (by assumption) ?rt1
  case hy1=>(intro w hSw;clear hSw;go_simp;try(with_reducible rfl))
  try simp only [Act.put,List.setIfInBounds_toArray,List.set_cons_zero,List.set_cons_succ]
  refine' aj (i:=2) (oi:=_) (d:=68) (v:=_) rfl rfl (by kernel_rfl) (by kernel_rfl) (by kernel_rfl) (fun _ _ _ h=>h) (Or.inl ⟨by kernel_rfl,?hy2⟩) (by assumption) ?rt2
  case hy2=>(intro w hSw;clear hSw;go_simp;try(with_reducible rfl))
  try simp only [Act.put,List.setIfInBounds_toArray,List.set_cons_zero,List.set_cons_succ]
  refine' aj (i:=3) (oi:=_) (d:=69) (v:=_) rfl rfl (by kernel_rfl) (by kernel_rfl) (by kernel_rfl) (fun _ _ _ h=>h) (Or.inl ⟨by kernel_rfl,?hy3⟩) (by assumption) ?rt3
  case hy3=>(intro w hSw;clear hSw;go_simp;try(with_reducible rfl))
  try simp only [Act.put,List.setIfInBounds_toArray,List.set_cons_zero,List.set_cons_succ]
  refine' aj (i:=4) (oi:=_) (d:=70) (v:=_) rfl rfl (by kernel_rfl) (by kernel_rfl) (by kernel_rfl) (fun _ _ _ h=>h) (Or.inl ⟨by kernel_rfl,?hy4⟩) (by assumption) ?rt4
  case hy4=>(intro w hSw;(try dsimp only at hSw);go_simp;try(with_reducible rfl))
  try simp only [Act.put,List.setIfInBounds_toArray,List.set_cons_zero,List.set_cons_succ]
  refine' aj (i:=5) (oi:=_) (d:=71) (v:=_) rfl rfl (by kernel_rfl) (by kernel_rfl) (by kernel_rfl) (fun _ _ _ h=>h) (Or.inl ⟨by kernel_rfl,?hy5⟩) (by assumption) ?rt5
  case hy5=>(intro w hSw;(try dsimp only at hSw);go_simp;try(with_reducible rfl))
  try simp only [Act.put,List.setIfInBounds_toArray,List.set_cons_zero,List.set_cons_succ]
  refine' aj (i:=7) (oi:=_) (d:=73) (v:=_) rfl rfl (by kernel_rfl) (by kernel_rfl) (by kernel_rfl) (fun _ _ _ h=>h) (Or.inl ⟨by kernel_rfl,?hy7⟩) (by assumption) ?rt7
  case hy7=>(intro w hSw;clear hSw;go_simp;try(with_reducible rfl))
  try simp only [Act.put,List.setIfInBounds_toArray,List.set_cons_zero,List.set_cons_succ]
  refine' aj (i:=8) (oi:=_) (d:=74) (v:=_) rfl rfl (by kernel_rfl) (by kernel_rfl) (by kernel_rfl) (fun _ _ _ h=>h) (Or.inl ⟨by kernel_rfl,?hy8⟩) (by assumption) ?rt8
  case hy8=>(intro w hSw;(try dsimp only at hSw);go_simp;try(with_reducible rfl))
  try simp only [Act.put,List.setIfInBounds_toArray,List.set_cons_zero,List.set_cons_succ]
  refine' aj (i:=9) (oi:=_) (d:=75) (v:=_) rfl rfl (by kernel_rfl) (by kernel_rfl) (by kernel_rfl) (fun _ _ _ h=>h) (Or.inl ⟨by kernel_rfl,?hy9⟩) (by assumption) ?rt9
  case hy9=>(intro w hSw;clear hSw;go_simp;try(with_reducible rfl))
  try simp only [Act.put,List.setIfInBounds_toArray,List.set_cons_zero,List.set_cons_succ]
  refine' aj (i:=10) (oi:=_) (d:=76) (v:=_) rfl rfl (by kernel_rfl) (by kernel_rfl) (by kernel_rfl) (fun _ _ _ h=>h) (Or.inl ⟨by kernel_rfl,?hy10⟩) (by assumption) ?rt10
  case hy10=>(intro w hSw;clear hSw;go_simp;try(with_reducible rfl))
  try simp only [Act.put,List.setIfInBounds_toArray,List.set_cons_zero,List.set_cons_succ]
  refine' aj (i:=11) (oi:=_) (d:=77) (v:=_) rfl rfl (by kernel_rfl) (by kernel_rfl) (by kernel_rfl) (fun _ _ _ h=>h) (Or.inl ⟨by kernel_rfl,?hy11⟩) (by assumption) ?rt11
  case hy11=>(intro w hSw;(try dsimp only at hSw);go_simp;try(with_reducible rfl))
  try simp only [Act.put,List.setIfInBounds_toArray,List.set_cons_zero,List.set_cons_succ]
  refine' aj (i:=12) (oi:=_) (d:=78) (v:=_) rfl rfl (by kernel_rfl) (by kernel_rfl) (by kernel_rfl) (fun _ _ _ h=>h) (Or.inl ⟨by kernel_rfl,?hy12⟩) (by assumption) ?rt12
  case hy12=>(intro w hSw;clear hSw;go_simp;try(with_reducible rfl))
  try simp only [Act.put,List.setIfInBounds_toArray,List.set_cons_zero,List.set_cons_succ]
  refine' aj (i:=13) (oi:=_) (d:=79) (v:=_) rfl rfl (by kernel_rfl) (by kernel_rfl) (by kernel_rfl) (fun _ _ _ h=>h) (Or.inl ⟨by kernel_rfl,?hy13⟩) (by assumption) ?rt13
  case hy13=>(intro w hSw;(try dsimp only at hSw);go_simp;try(with_reducible rfl))
  try simp only [Act.put,List.setIfInBounds_toArray,List.set_cons_zero,List.set_cons_succ]
  refine wpAnyH_ready (rs:=[6]) (by kernel_rfl) (by simp) ?_;refine AllReadyH.cons (o:=_) rfl (fun K hK=> ?_) AllReadyH.nil;go_simp;refine HSv.out.mono ?_;rintro e w8 ⟨v8,rfl,hR8,hs8⟩;have hs78:=(Sm.refl No w7).drew.tt hs8;have k8:=HC.out _ hs78;have HR8:=aa (ab hR8 hs78);clear hR8 hs8 hs78;go_wp2_with fail;refine hK.out _ _ k8 (fun _=> ?_);clear hK;refine' aj (i:=14) (oi:=_) (d:=80) (v:=_) rfl rfl (by kernel_rfl) (by kernel_rfl) (by kernel_rfl) (fun _ _ _ h=>h) (Or.inl ⟨by kernel_rfl,?hy14⟩) (by assumption) ?rt14
  case hy14=>(intro w hSw;clear hSw;go_simp;try(with_reducible rfl))
  try simp only [Act.put,List.setIfInBounds_toArray,List.set_cons_zero,List.set_cons_succ]
  refine' bJ (i:=15) (oi:=_) (d:=81) rfl rfl (by kernel_rfl) (by kernel_rfl) (by kernel_rfl) (fun _ _ _ h=>h) ?w15 (by assumption) ?rt15
  case w15=>kernel_rfl
  try simp only [Act.put,List.setIfInBounds_toArray,List.set_cons_zero,List.set_cons_succ]
  refine' bJ (i:=16) (oi:=_) (d:=82) rfl rfl (by kernel_rfl) (by kernel_rfl) (by kernel_rfl) (fun _ _ _ h=>h) ?w16 (by assumption) ?rt16
  case w16=>kernel_rfl
  try simp only [Act.put,List.setIfInBounds_toArray,List.set_cons_zero,List.set_cons_succ]
  refine' bJ (i:=17) (oi:=_) (d:=83) rfl rfl (by kernel_rfl) (by kernel_rfl) (by kernel_rfl) (fun _ _ _ h=>h) ?w17 (by assumption) ?rt17
  case w17=>kernel_rfl
  try simp only [Act.put,List.setIfInBounds_toArray,List.set_cons_zero,List.set_cons_succ]
  refine' bJ (i:=18) (oi:=_) (d:=84) rfl rfl (by kernel_rfl) (by kernel_rfl) (by kernel_rfl) (fun _ _ _ h=>h) ?w18 (by assumption) ?rt18
  case w18=>kernel_rfl
  try simp only [Act.put,List.setIfInBounds_toArray,List.set_cons_zero,List.set_cons_succ]
  refine' aj (i:=19) (oi:=_) (d:=85) (v:=_) rfl rfl (by kernel_rfl) (by kernel_rfl) (by kernel_rfl) (fun _ _ _ h=>h) (Or.inl ⟨by kernel_rfl,?hy19⟩) (by assumption) ?rt19
  case hy19=>(intro w hSw;clear hSw;go_simp;try(with_reducible rfl))
  try simp only [Act.put,List.setIfInBounds_toArray,List.set_cons_zero,List.set_cons_succ]
  refine wpAnyH_ready (rs:=[20]) (by kernel_rfl) (by simp) ?_;refine AllReadyH.cons (o:=_) rfl (fun K hK=> ?_) AllReadyH.nil;go_simp;refine(HLy1.out w8 HR8.out.2 _ _ HR8.out.1).mono ?_;rintro e w9 ⟨rfl,D9,hI9,hG9⟩;have k9:=HC9.out w8 HR8.out.2 w9 D9 _ _ hI9 hG9;have HS9:=aa (ab hI9 ((aZ.no D2 HR8.out.2).trans hG9));clear hI9 hG9;go_wp2_with fail;refine hK.out _ _ k9 (fun _=> ?_);clear hK;refine wpAnyH_done (by kernel_rfl) ?_ _;refine NoPanic.normal ?_;go_wp2_with fail;go_ret;refine⟨rfl,D9,?_,HG.out.trans HS9.out.2⟩;have e:=HS9.out.1;rw [←HQt.out] at e;unfold Cn.take;rw [HE3.out];exact e
theorem tj{r:fQ}(h:hY r)(head close:Bool)(minor:Int):(gw r head minor close).length≤65536:=by
 have h0:=h.enc head close minor;unfold qR at h0;split at h0
 ·cases h0
 ·split at h0
  ·cases h0
  ·omega
structure AR (s:Cn):Prop where
 b:s.b.length≤100000
 ps:s.ps.length≤1000
 last:s.last≤100000
 taken:s.taken≤100000
 laid:s.laid≤100000
 fed: -1000000000≤s.fed∧s.fed≤1000000000
theorem CJ{K:Kn}{s:Cn}(h:Gj K s=true):AR s∧(∀ hd b,s.p=.whole hd b→(co K.T (CA (hd,b))).parts=[])∧∀ st,s.p=.bad st→200≤st∧st≤599:=by
 unfold Gj at h;simp only [Bool.and_eq_true,decide_eq_true_eq] at h;obtain⟨h1,h2,h3,h4,h5,h6,h7,h8⟩:=h;refine⟨⟨h1,h2,h3,h4,h5,h6,h7⟩,fun hd b e=> ?_,fun st e=> ?_⟩
 ·rw [e] at h8;exact List.isEmpty_iff.1 h8
 ·rw [e] at h8;simpa using h8
theorem AR.room{s:Cn}(h:AR s){n:Nat}(hn:n≤65536):zR s n:=⟨by have:=h.b;omega,by have:=h.ps;omega,by have:=h.last;omega,by have:=h.laid;omega⟩
theorem vk(w0 w:World)(D:Nat→Nat→Prop)(c:Nat)(z:Zn)(K:Kn)(s:Cn)(h:aq w0 w D c z K s)(hK:Ed K)(hok:Gj K s=true):
 Calls Tryz.prog 67 #[.pointer (some ⟨c,0,none⟩)] w (match xe K s with|some s'=>dN w0 w D c z K true s'|none=>dN w0 w D c z K false s):=by
 obtain⟨hz,hwh,hbad⟩:=CJ hok;have hps:s.ps.length≤100000:=by have:=hz.ps;omega
 unfold xe
 cases hf:fD K s with
 |true=>
  rw [if_pos rfl];exact tu w0 w D c z K s h hf hps hz.fed
 |false=>
  rw [if_neg (by decide)]
  cases he:s.ending with
  |true=>
   rw [if_pos rfl];exact vt w0 w D c z K s h hf hps he
  |false=>
   rw [if_neg (by decide)];have hsay:∀ p,s.p=p→p.phase≠3→p.phase≠4→Calls Tryz.prog 67 #[.pointer (some ⟨c,0,none⟩)] w (match (if (p.waits&&(s.r.isEmpty&& !s.word))=true then some s.say else none) with|some s'=>dN w0 w D c z K true s'|none=>dN w0 w D c z K false s):=fun p e h3 h4=>by
    cases hs:(p.waits&&(s.r.isEmpty&& !s.word)) with
    |true=>
     rw [if_pos rfl];exact wl w0 w D c z K s h hf he (by rw [e];exact h3) (by rw [e];exact h4) (by unfold yu;rw [e];exact hs) (hz.room (by decide))
    |false=>
     rw [if_neg (by decide)];exact sy w0 w D c z K s h hf hps he (by rw [e];exact h3) (by rw [e];exact h4) (by unfold yu;rw [e];exact hs)
   cases hp:s.p with
   |whole hd b=>
    have hok:=h.ok;rw [hp] at hok;have hn:=pj hK.site hok;exact rD w0 w D c z K s h hK hf he hd b hp (hwh hd b hp) (by have:=hz.taken;omega) (hz.room (tj hn _ _ _))
   |bad st=>
    have hst:=hbad st hp;exact wu w0 w D c z K s h hf he st hp hst (hz.room (tj (dI hst (by decide) (fun x hx=>by cases hx)) _ _ _))
   |idle=>exact hsay _ hp (by decide) (by decide)
   |head a b=>exact hsay _ hp (by simp [cP.phase]) (by simp [cP.phase])
   |len a b=>exact hsay _ hp (by simp [cP.phase]) (by simp [cP.phase])
   |chunk a b q=>exact hsay _ hp (by simp [cP.phase]) (by simp [cP.phase])
theorem CM{P:Nat→Prop}(h:∃ k,P k):∃ k,P k∧∀ j,P j→k≤j:=by
 obtain⟨k,hk⟩:=h
 induction k using Nat.strongRecOn with
 |_ k ih=>
  by_cases hj:∃ j,j < k∧P j
  ·obtain⟨j,hjk,hj⟩:=hj;exact ih j hjk hj
  ·exact⟨k,hk,fun j hj2=>Nat.le_of_not_lt fun e=>hj ⟨j,e,hj2⟩⟩
noncomputable def lk(P:Nat→Prop):Nat:=Classical.epsilon fun k=>P k∧∀ j,P j→k≤j
theorem eV{P:Nat→Prop}(h:∃ k,P k):P (lk P)∧∀ j,P j→lk P≤j:=Classical.epsilon_spec (CM h)
def Gs(w0 w:World)(D:Nat→Nat→Prop)(c:Nat)(z:Zn)(K:Kn)(s':Cn)(wr:World)(k:Nat):Prop:=∃ s1 D1,mP K k s1=some s'∧aq w0 wr D1 c z K s1∧aZ D w D1 wr
theorem iF(w0 w:World)(D:Nat→Nat→Prop)(c:Nat)(z:Zn)(K:Kn)(s s':Cn)(k:Nat)(h:aq w0 w D c z K s)(hK:Ed K)(hw:mP K k s=some s'):
 Calls Tryz.prog 40 #[.pointer (some ⟨c,0,none⟩)] w fun e w'=>e=.returned (.tuple #[])∧∃ D',aq w0 w' D' c z K s'∧aZ D w D' w':=by
 have HI:=aa (show Gs w0 w D c z K s' w k from⟨s,D,hw,h,aZ.refl D w⟩);clear h hw;go_in;go_wp2_with fail
 go_loopw [10] (fun _ wr=>∃ k,Gs w0 w D c z K s' wr k) (fun _ wr=>lk (Gs w0 w D c z K s' wr))
 case atStart=>exact⟨k,HI.out⟩
 case round=>
  obtain⟨hP,hmin⟩:=eV hrel;obtain⟨m,hm⟩:=ai (lk (Gs w0 w D c z K s' wr));rw [hm] at hP;have HM:=aa hm;clear hm hmin;obtain⟨s1,D1,hw1,hI1,hG1⟩:=hP
  cases m with
  |zero=>cases hw1
  |succ m=>
   rw [mP] at hw1;have hcl:=hI1.bk.lt;have c27:=hI1.bk.at 27 (v:=.bool s1.closed) rfl;have c0:=hI1.bk.at 0 (v:=.pointer (some ⟨z.gq,0,none⟩)) rfl;obtain⟨vB,vP,hV, -⟩:=hI1.qu;have HL:=aa (iR wr z.gq vB vP _ _ _ hV);obtain⟨cl,hcl2⟩:∃ x,s1.closed=x:=⟨_,rfl⟩;rw [hcl2] at c27
   cases cl with
   |true=>
    rw [if_pos hcl2] at hw1;injection hw1 with hw1;have HF:=aa (show ∃ D',aq w0 wr D' c z K s'∧aZ D w D' wr from⟨D1,by rw [←hw1];unfold Cn.fin;rw [hcl2,Bool.or_true,if_pos rfl];exact hI1,hG1⟩);clear hw1 hI1 hG1 hV hcl2 hrel;obtain⟨nb,hnb⟩:∃ n,s1.b.length=n:=⟨_,rfl⟩;rw [hnb] at HL;by_cases h0:nb=0
    ·subst h0;go_wp2_with (first|(go_at_call 15;refine HL.out.mono ?_;rintro e w1 ⟨rfl,rfl⟩));refine bodyPost_ret (results_none rfl _ _ _) rfl ?_;exact⟨rfl,HF.out⟩
    ·have k1:(0:Int) < (nb:Int):=by omega
     go_wp2_with (first|(go_at_call 15;refine HL.out.mono ?_;rintro e w1 ⟨rfl,rfl⟩));refine bodyPost_ret (results_none rfl _ _ _) rfl ?_;exact⟨rfl,HF.out⟩
   |false=>
    rw [if_neg (by rw [hcl2];decide)] at hw1
    cases hok:Gj K s1 with
    |false=>rw [hok,if_pos rfl] at hw1;cases hw1
    |true=>
     rw [hok,if_neg (by decide)] at hw1;have hst:=vk w0 wr D1 c z K s1 hI1 hK hok
     cases hs:xe K s1 with
     |some s2=>
      rw [hs] at hw1 hst;dsimp only at hw1 hst;have HS:=aa hst;have HW:=aa (ab hw1 hG1);clear hst hw1 hI1 hG1 hV hcl2 hok hs c0;go_wp2_with (first|(go_at_call 67;refine HS.out.mono ?_;rintro e w2 ⟨rfl,D2,hI2,hG2⟩;have H2:=aa (ab hI2 hG2);clear hI2 hG2));have hP2:Gs w0 w D c z K s' w2 m:=⟨s2,D2,HW.out.1,H2.out.1,HW.out.2.trans H2.out.2⟩;refine⟨⟨m,hP2⟩,?_⟩;have:=(eV ⟨m,hP2⟩).2 m hP2;rw [HM.out];omega
     |none=>
      rw [hs] at hw1 hst;dsimp only at hw1 hst;injection hw1 with hw1;have HS:=aa hst;have HW:=aa (ab hw1 (ab hG1 hcl2));clear hst hw1 hI1 hG1 hV hok hs c0 HL;obtain⟨en,hen⟩:∃ x,s1.ended=x:=⟨_,rfl⟩;obtain⟨qt,hqt⟩:∃ x,s1.quitting=x:=⟨_,rfl⟩;obtain⟨eg,heg⟩:∃ x,s1.ending=x:=⟨_,rfl⟩;obtain⟨nb,hnb⟩:∃ n,s1.b.length=n:=⟨_,rfl⟩;obtain⟨nr,hnr⟩:∃ n,s1.r.length=n:=⟨_,rfl⟩;obtain⟨ph,hph⟩:∃ n,s1.p.phase=n:=⟨_,rfl⟩;have hib:s1.b.isEmpty=decide (nb=0):=by rw [←hnb];cases s1.b<;>simp
      have hir:s1.r.isEmpty=decide (nr=0):=by rw [←hnr];cases s1.r<;>simp
      have HFin:=aa (show s1.fin=if (!decide (nb=0))=true then s1 else {s1 with closed:=en||(qt&&(!eg&&(decide (ph=0)&&decide (nr=0))))} from by unfold Cn.fin;rw [hcl2,Bool.or_false,hib,hir,hen,hqt,heg,hph]);have HC:=aa (fun (W:World) (D2:Nat→Nat→Prop) (i:aq w0 W D2 c z K s1)=>show Calls Tryz.prog 15 #[.pointer (some ⟨z.gq,0,none⟩)] W (fun e w'=>e=.returned (.int .i64 (nb:Int))∧W=w')∧Calls Tryz.prog 69 #[.pointer (some ⟨z.gr,0,none⟩)] W (fun e w'=>e=.returned (.int .i64 (nr:Int))∧W=w')∧Calls Tryz.prog 68 #[.pointer (some ⟨z.gp,0,none⟩)] W (fun e w'=>e=.returned (.int .i64 ph)∧W=w') from by
       obtain⟨vB,vP,hV, -⟩:=i.qu;obtain⟨gb,f,M,hR, -⟩:=i.rg;exact⟨by rw [←hnb];exact iR W z.gq vB vP _ _ _ hV,by rw [←hnr];exact ew W z.gr gb K.n f M s1.r hR,by rw [←hph];exact dx W (D2 5) z.gp s1.p i.pp⟩)
      have HB:=aa (fun (W:World) (D2:Nat→Nat→Prop) (i:aq w0 W D2 c z K s1)=>show W.cell? ⟨c,0,none⟩=some (.pointer (some ⟨z.gq,0,none⟩))∧W.cell? ⟨c,18,none⟩=some (.pointer (some ⟨z.gr,0,none⟩))∧W.cell? ⟨c,19,none⟩=some (.pointer (some ⟨z.gp,0,none⟩))∧W.cell? ⟨c,24,none⟩=some (.bool qt)∧W.cell? ⟨c,25,none⟩=some (.bool eg)∧W.cell? ⟨c,26,none⟩=some (.bool en)∧W.cell? ⟨c,27,none⟩=some (.bool false)∧W.frozen? ⟨c,27,none⟩=false∧c < W.heap.size from
       ⟨i.bk.at 0 rfl,i.bk.at 18 rfl,i.bk.at 19 rfl,(i.bk.at 24 (v:=.bool s1.quitting) rfl).trans (by rw [hqt]),(i.bk.at 25 (v:=.bool s1.ending) rfl).trans (by rw [heg]),(i.bk.at 26 (v:=.bool s1.ended) rfl).trans (by rw [hen]),(i.bk.at 27 (v:=.bool s1.closed) rfl).trans (by rw [hcl2]),i.bk.fz 27,i.bk.lt⟩)
      have HE:=aa (fun (W:World) (D2:Nat→Nat→Prop) (i:aq w0 W D2 c z K s1) (g:aZ D w D2 W) (b:Bool) (hb0:nb=0) (hb:(en||(qt&&(!eg&&(decide (ph=0)&&decide (nr=0)))))=b)=>show ∃ D',aq w0 (W.setCell ⟨c,27,none⟩ (.bool b)) D' c z K s'∧aZ D w D' (W.setCell ⟨c,27,none⟩ (.bool b)) from by
       obtain⟨h1,h2⟩:=i.setC (w':=W.setCell ⟨c,27,none⟩ (.bool b)) ((Sm.refl _ W).set1 27 _) {s1 with closed:=b} ((i.bk.set 27 _).eq rfl) rfl;refine⟨D2,?_,g.trans h2⟩;rw [←HW.out.1,HFin.out,if_neg (by rw [hb0];decide),hb];exact h1)
      clear hen hqt heg hnb hnr hph hib hir hcl2 hrel;obtain⟨gq,gs,gr,gp,gm⟩:=z;dsimp only at HC HB;by_cases h0:nb=0
      ·have hn0:=h0;subst h0
       cases en with
       |true=>
        go_wp2_with (first
         |(go_at_call 67;refine HS.out.mono ?_;rintro e w2 ⟨rfl,D2,hI2,hG2⟩;obtain⟨d0,d18,d19,d24,d25,d26,d27,z27,dl⟩:=HB.out w2 D2 hI2;have HC2:=aa (HC.out w2 D2 hI2);have H2:=aa (ab hI2 (HW.out.2.1.trans hG2));clear hI2 hG2)
         |(go_at_call 15;refine HC2.out.1.mono ?_;rintro e w3 ⟨rfl,rfl⟩)
         |(go_at_call 68;refine HC2.out.2.2.mono ?_;rintro e w4 ⟨rfl,rfl⟩)
         |(go_at_call 69;refine HC2.out.2.1.mono ?_;rintro e w5 ⟨rfl,rfl⟩))
        go_end0
        exact⟨rfl,HE.out w2 D2 H2.out.1 H2.out.2 true (by simp) (by simp [*])⟩
       |false=>
        cases qt with
        |false=>
         go_wp2_with (first
          |(go_at_call 67;refine HS.out.mono ?_;rintro e w2 ⟨rfl,D2,hI2,hG2⟩;obtain⟨d0,d18,d19,d24,d25,d26,d27,z27,dl⟩:=HB.out w2 D2 hI2;have HC2:=aa (HC.out w2 D2 hI2);have H2:=aa (ab hI2 (HW.out.2.1.trans hG2));clear hI2 hG2)
          |(go_at_call 15;refine HC2.out.1.mono ?_;rintro e w3 ⟨rfl,rfl⟩)
          |(go_at_call 68;refine HC2.out.2.2.mono ?_;rintro e w4 ⟨rfl,rfl⟩)
          |(go_at_call 69;refine HC2.out.2.1.mono ?_;rintro e w5 ⟨rfl,rfl⟩))
         go_end0
         exact⟨rfl,HE.out w2 D2 H2.out.1 H2.out.2 false (by simp) (by simp [*])⟩
        |true=>
         cases eg with
         |true=>
          go_wp2_with (first
           |(go_at_call 67;refine HS.out.mono ?_;rintro e w2 ⟨rfl,D2,hI2,hG2⟩;obtain⟨d0,d18,d19,d24,d25,d26,d27,z27,dl⟩:=HB.out w2 D2 hI2;have HC2:=aa (HC.out w2 D2 hI2);have H2:=aa (ab hI2 (HW.out.2.1.trans hG2));clear hI2 hG2)
           |(go_at_call 15;refine HC2.out.1.mono ?_;rintro e w3 ⟨rfl,rfl⟩)
           |(go_at_call 68;refine HC2.out.2.2.mono ?_;rintro e w4 ⟨rfl,rfl⟩)
           |(go_at_call 69;refine HC2.out.2.1.mono ?_;rintro e w5 ⟨rfl,rfl⟩))
          go_end0
          exact⟨rfl,HE.out w2 D2 H2.out.1 H2.out.2 false (by simp) (by simp [*])⟩
         |false=>
          by_cases h1:ph=0
          ·subst h1;by_cases h2:nr=0
           ·subst h2;go_wp2_with (first
             |(go_at_call 67;refine HS.out.mono ?_;rintro e w2 ⟨rfl,D2,hI2,hG2⟩;obtain⟨d0,d18,d19,d24,d25,d26,d27,z27,dl⟩:=HB.out w2 D2 hI2;have HC2:=aa (HC.out w2 D2 hI2);have H2:=aa (ab hI2 (HW.out.2.1.trans hG2));clear hI2 hG2)
             |(go_at_call 15;refine HC2.out.1.mono ?_;rintro e w3 ⟨rfl,rfl⟩)
             |(go_at_call 68;refine HC2.out.2.2.mono ?_;rintro e w4 ⟨rfl,rfl⟩)
             |(go_at_call 69;refine HC2.out.2.1.mono ?_;rintro e w5 ⟨rfl,rfl⟩))
            go_end0
            exact⟨rfl,HE.out w2 D2 H2.out.1 H2.out.2 true (by simp) (by simp [*])⟩
           ·have k2:((nr:Int)==0)=false:=by simpa using h2
            go_wp2_with (first
             |(go_at_call 67;refine HS.out.mono ?_;rintro e w2 ⟨rfl,D2,hI2,hG2⟩;obtain⟨d0,d18,d19,d24,d25,d26,d27,z27,dl⟩:=HB.out w2 D2 hI2;have HC2:=aa (HC.out w2 D2 hI2);have H2:=aa (ab hI2 (HW.out.2.1.trans hG2));clear hI2 hG2)
             |(go_at_call 15;refine HC2.out.1.mono ?_;rintro e w3 ⟨rfl,rfl⟩)
             |(go_at_call 68;refine HC2.out.2.2.mono ?_;rintro e w4 ⟨rfl,rfl⟩)
             |(go_at_call 69;refine HC2.out.2.1.mono ?_;rintro e w5 ⟨rfl,rfl⟩))
            go_end0
            exact⟨rfl,HE.out w2 D2 H2.out.1 H2.out.2 false (by simp) (by simp [*])⟩
          ·have k1:(ph==0)=false:=by simpa using h1
           go_wp2_with (first
            |(go_at_call 67;refine HS.out.mono ?_;rintro e w2 ⟨rfl,D2,hI2,hG2⟩;obtain⟨d0,d18,d19,d24,d25,d26,d27,z27,dl⟩:=HB.out w2 D2 hI2;have HC2:=aa (HC.out w2 D2 hI2);have H2:=aa (ab hI2 (HW.out.2.1.trans hG2));clear hI2 hG2)
            |(go_at_call 15;refine HC2.out.1.mono ?_;rintro e w3 ⟨rfl,rfl⟩)
            |(go_at_call 68;refine HC2.out.2.2.mono ?_;rintro e w4 ⟨rfl,rfl⟩)
            |(go_at_call 69;refine HC2.out.2.1.mono ?_;rintro e w5 ⟨rfl,rfl⟩))
           go_end0
           exact⟨rfl,HE.out w2 D2 H2.out.1 H2.out.2 false (by simp) (by simp [*])⟩
      ·have k1:(0:Int) < (nb:Int):=by omega
       go_wp2_with (first
        |(go_at_call 67;refine HS.out.mono ?_;rintro e w2 ⟨rfl,D2,hI2,hG2⟩;obtain⟨d0,d18,d19,d24,d25,d26,d27,z27,dl⟩:=HB.out w2 D2 hI2;have HC2:=aa (HC.out w2 D2 hI2);have H2:=aa (ab hI2 (HW.out.2.1.trans hG2));clear hI2 hG2)
        |(go_at_call 15;refine HC2.out.1.mono ?_;rintro e w3 ⟨rfl,rfl⟩)
        |(go_at_call 68;refine HC2.out.2.2.mono ?_;rintro e w4 ⟨rfl,rfl⟩)
        |(go_at_call 69;refine HC2.out.2.1.mono ?_;rintro e w5 ⟨rfl,rfl⟩))
       refine bodyPost_ret (results_none rfl _ _ _) rfl ?_;exact⟨rfl,D2,by rw [←HW.out.1,HFin.out,if_pos (by simp [h0])];exact H2.out.1,H2.out.2⟩
theorem vr (w0 w:World) (D:Nat→Nat→Prop) (c:Nat) (z:Zn) (K:Kn) (s s1 s2:Cn) (now:Int) (F:FuncId) (caps:Array Value) (E:World→(Nat→Nat→Prop)→Prop) (h:aq w0 w D c z K s) (hK:Ed K) (hF:∀ (args:Array Value) (W:World),Sem.run Tryz.prog (callFunc F args) W=.ok (.enter F args) W)
 (hc:∀ W,Sm No w W→Calls Tryz.prog F caps W fun e w'=>e=.returned (.tuple #[])∧∃ D1,aq w0 w' D1 c z K s1∧E w' D1) (hw:lp K s1=some s2):
 Calls Tryz.prog 37 #[.pointer (some ⟨c,0,none⟩),.int .i64 now,.func (.func F) #[] caps] w fun e w'=>e=.returned (.tuple #[])∧∃ D' w1 D1,aq w0 w' D' c z K (s2.turn now s.phase s.told)∧E w1 D1∧aZ D1 w1 D' w':=by
 have hcl:=h.bk.lt;have c20:=h.bk.at 20 (v:=.int .i64 s.phase) rfl;have c33:=h.bk.at 33 (v:=.int .i64 (s.told:Int)) rfl;obtain⟨ph,hph⟩:∃ n,s.phase=n:=⟨_,rfl⟩;obtain⟨td,htd⟩:∃ n,s.told=n:=⟨_,rfl⟩;rw [hph] at c20;rw [htd] at c33;rw [hph,htd];have HCl:=aa hc;have HI:=aa (ab hK hw);clear h hK hc hw hph htd;go_in;go_wp2_with fail;go_quiet (fail);have HC1:=aa (HCl.out _ ((Sm.refl No w).drewN nq));go_wp2_with fail;refine HC1.out.mono ?_;rintro e w1 ⟨rfl,D1,hI1,hE1⟩;have HWk:=aa (iF w0 w1 D1 c z K s1 s2 bY hI1 HI.out.1 HI.out.2);have HE1:=aa hE1;clear hI1 hE1;go_wp2_with fail;refine HWk.out.mono ?_;rintro e w2 ⟨rfl,D2,hI2,hG2⟩;have HSt:=aa (sx w0 w2 D2 c z K s2 hI2);have d20:=hI2.bk.at 20 (v:=.int .i64 s2.phase) rfl;have z20:=hI2.bk.fz 20;have d33:=hI2.bk.at 33 (v:=.int .i64 (s2.told:Int)) rfl;have hcl2:=hI2.bk.lt;obtain⟨st,hst⟩:∃ n,s2.state=n:=⟨_,rfl⟩;obtain⟨t2,ht2⟩:∃ n,s2.told=n:=⟨_,rfl⟩;rw [ht2] at d33;rw [hst] at HSt;have HT:=aa (show s2.turn now ph td=if st≠ph∨(st=3∧t2≠td) then {s2 with phase:=st,since:=now,paced:=now,fed:=0} else {s2 with phase:=st} from by unfold Cn.turn;rw [hst,ht2]);have H2:=aa (ab hI2 hG2);clear hI2 hG2 hst ht2;have HNo:=aa (fun (hno:¬(st≠ph∨(st=3∧t2≠td)))=>show ∃ D' w1 D1,aq w0 (w2.setCell ⟨c,20,none⟩ (.int .i64 st)) D' c z K (s2.turn now ph td)∧E w1 D1∧aZ D1 w1 D' (w2.setCell ⟨c,20,none⟩ (.int .i64 st)) from by
  obtain⟨h3,g3⟩:=H2.out.1.setC (w':=w2.setCell ⟨c,20,none⟩ (.int .i64 st)) ((Sm.refl _ w2).set1 20 _) {s2 with phase:=st} ((H2.out.1.bk.set 20 _).eq rfl) rfl;exact⟨D2,w1,D1,by rw [HT.out,if_neg hno];exact h3,HE1.out,H2.out.2.trans g3⟩)
 have HYes:=aa (fun (hyes:st≠ph∨(st=3∧t2≠td)) (W:World) (hW:(((w2.setCell ⟨c,20,none⟩ (.int .i64 st)).setCell ⟨c,21,none⟩ (.int .i64 now)).setCell ⟨c,22,none⟩ (.int .i64 now)).setCell ⟨c,23,none⟩ (.int .i64 0)=W)=>show ∃ D' w1 D1,aq w0 W D' c z K (s2.turn now ph td)∧E w1 D1∧aZ D1 w1 D' W from by
  obtain⟨h3,g3⟩:=H2.out.1.setC (w':=W) (by rw [←hW];exact((((Sm.refl _ w2).set1 20 _).set1 21 _).set1 22 _).set1 23 _) {s2 with phase:=st,since:=now,paced:=now,fed:=0} (by rw [←hW];exact((((H2.out.1.bk.set 20 _).set 21 _).set 22 _).set 23 _).eq rfl) rfl;exact⟨D2,w1,D1,by rw [HT.out,if_pos hyes];exact h3,HE1.out,H2.out.2.trans g3⟩)
 have z21:=H2.out.1.bk.fz 21;have z22:=H2.out.1.bk.fz 22;have z23:=H2.out.1.bk.fz 23;have d21:=H2.out.1.bk.at 21 (v:=.int .i64 s2.since) rfl;have d22:=H2.out.1.bk.at 22 (v:=.int .i64 s2.paced) rfl;have d23:=H2.out.1.bk.at 23 (v:=.int .i64 s2.fed) rfl;by_cases h1:st=ph
 ·have k1:(st != ph)=false:=by simpa using h1
  by_cases h2:st=3
  ·have k2:(st==3)=true:=by simpa using h2
   by_cases h3:t2=td
   ·have k3:((t2:Int) != (td:Int))=false:=by rw [h3];simp
    have HF:=aa (HNo.out (by simp [h1,h3]));clear h1 h2 h3;go_wp2_with fail;refine HSt.out.mono ?_;rintro e w3 ⟨rfl,rfl⟩;go_wp2_with fail
    go_end0
    exact⟨rfl,HF.out⟩
   ·have k3:((t2:Int) != (td:Int))=true:=by simp;omega
    have HF:=aa (HYes.out (Or.inr ⟨h2,h3⟩));clear h1 h2 h3;go_wp2_with fail;refine HSt.out.mono ?_;rintro e w3 ⟨rfl,rfl⟩;go_wp2_with fail
    go_end0
    exact⟨rfl,HF.out _ rfl⟩
  ·have k2:(st==3)=false:=by simpa using h2
   have HF:=aa (HNo.out (by simp [h1];intro e;exact absurd (h1.trans e) h2));clear h1 h2;go_wp2_with fail;refine HSt.out.mono ?_;rintro e w3 ⟨rfl,rfl⟩;go_wp2_with fail
   go_end0
   exact⟨rfl,HF.out⟩
 ·have k1:(st != ph)=true:=by simpa using h1
  have HF:=aa (HYes.out (Or.inl h1));clear h1;go_wp2_with fail;refine HSt.out.mono ?_;rintro e w3 ⟨rfl,rfl⟩;go_wp2_with fail
  go_end0
  exact⟨rfl,HF.out _ rfl⟩
theorem we(args:Array Value)(W:World):Sem.run Tryz.prog (callFunc 38 args) W=.ok (.enter 38 args) W:=by
 simp [callFunc,go_sem,Tryz.func38];rw [if_neg (by decide+kernel),if_neg (fun h=>absurd (congrArg Option.isNone h) (by decide+kernel))]
def xF(A:Option Addr)(n c k:Nat):Value:=match A with
 |none=>.slice none (n-k) (c-k)
 |some a=>.slice (if c=k then some a else some (a.add k)) (n-k) (c-k)
theorem C9{w:World}{A:Option Addr}{t:ah}{c k:Nat}(h:ax w A (t.map aU))(hc:t.length≤c)(hk:k≤t.length)(hn:A=none→t.length=0∧c=0):∃ A' c',xF A t.length c k=.slice A' (t.drop k).length c'∧ax w A' ((t.drop k).map aU)∧(∀ a,A'=some a→∃ a0,A=some a0∧a.block=a0.block)∧(t.drop k).length≤c'∧(A'=none→t.drop k=[])∧c'≤c:=by
 have hl:(t.drop k).length=t.length-k:=List.length_drop
 cases A with
 |none=>
  obtain⟨h1,h2⟩:=hn rfl;have ht:t=[]:=List.eq_nil_of_length_eq_zero h1;subst ht;exact⟨none,c-k,(by rw [hl];rfl),(by simpa using ax.nil w none),(fun a e=>by cases e),(by rw [hl];simp),(fun _=>by simp),(by omega)⟩
 |some a=>
  by_cases hck:c=k
  ·refine⟨some a,c-k,by rw [hl];unfold xF;simp only [hck,if_true],?_,fun a' e=>⟨a',e,rfl⟩,by omega,fun e=>(by cases e),by omega⟩;have:t.drop k=[]:=List.drop_eq_nil_of_le (by omega);rw [this];exact ax.nil _ _
  ·refine⟨some (a.add k),c-k,by rw [hl];unfold xF;simp only [if_neg hck],fun j u hj=> ?_,fun a' e=> ?_,by omega,fun e=>(by cases e),by omega⟩
   ·rw [List.map_drop,List.getElem?_drop] at hj;obtain⟨bb,off,e,hb,hx⟩:=h _ u hj;injection e with e;subst e;exact⟨bb,off+k,by rw [jR],hb,by rw [Nat.add_assoc];exact hx⟩
   ·injection e with e;refine⟨a,rfl,?_⟩;rw [←e];unfold Addr.add;split<;>rfl
theorem An{K:Kn}{j n1 x kk:Nat}{s1 s':Cn}{t:ah}(h:kt K (j+1) s1 t=some (s',n1))(hx:t.length=x)(hk:min x (K.n-s1.r.length)=kk):
 ∃ s2,lp K (s1.write K t)=some s2∧(((s2.ending||s2.closed)=true∧s'=s2∧n1=x)∨((s2.ending||s2.closed)=false∧(kk=0∨kk=x)∧s'=s2∧n1=kk)∨((s2.ending||s2.closed)=false∧kk≠0∧kk≠x∧∃ n2,kt K j s2 (t.drop kk)=some (s',n2)∧n1=kk+n2)):=by
 rw [kt,hx,hk] at h
 cases hw:lp K (s1.write K t) with
 |none=>rw [hw] at h;cases h
 |some s2=>
  rw [hw] at h;dsimp only at h;refine⟨s2,rfl,?_⟩
  cases hc:(s2.ending||s2.closed) with
  |true=>
   rw [hc,if_pos rfl] at h;injection h with h;injection h with h1 h2;exact Or.inl ⟨rfl,h1.symm,h2.symm⟩
  |false=>
   rw [hc,if_neg (by decide)] at h;by_cases hk2:kk=0∨kk=x
   ·rw [if_pos hk2] at h;injection h with h;injection h with h1 h2;exact Or.inr (Or.inl ⟨rfl,hk2,h1.symm,h2.symm⟩)
   ·rw [if_neg hk2] at h;have hroom:K.n-s1.r.length=kk:=by omega
    rw [hroom] at h
    cases hp:kt K j s2 (t.drop kk) with
    |none=>rw [hp] at h;cases h
    |some q=>
     obtain⟨s3,n2⟩:=q;rw [hp] at h;injection h with h;injection h with h1 h2;exact Or.inr (Or.inr ⟨rfl,fun e=>hk2 (Or.inl e),fun e=>hk2 (Or.inr e),n2,by rw [h1],h2.symm⟩)
structure sE (w0 w:World) (D:Nat→Nat→Prop) (c:Nat) (z:Zn) (K:Kn) (bn:Nat) (t:ah) (s':Cn) (n:Nat) (wr:World) (j:Nat) (m:Nat) (s1:Cn) (D1:Nat→Nat→Prop):Prop where
 run:∃ n1,kt K j s1 (t.drop m)=some (s',n1)∧m+n1=n
 hm:m≤t.length
 box:Bk wr bn 3 #[.int .i64 (m:Int)]
 con:aq w0 wr D1 c z K s1
 sm:Sm (fun x=>ck D x∨x=bn) w wr
 new:∀ k x,D1 k x→D k x∨w.heap.size≤x
theorem yU{w0 w:World}{D:Nat→Nat→Prop}{c rb:Nat}{z:Zn}{K:Kn}{s:Cn}(h:aq w0 w D c z K s)(A:Option Addr)(cp:Nat)(t:ah)(hb:Bk w rb 34 #[.slice A t.length cp])(hR:ax w A (t.map aU))(hA:∀ a,A=some a→t≠[]→¬ck D a.block)(hn:A=none→t=[])(hl:t.length≤1000000)(hcp:t.length≤cp)(hcp2:cp≤9223372036854775807):
 Calls Tryz.prog 39 #[.pointer (some ⟨z.gr,0,none⟩),.slice (some ⟨rb,0,none⟩) 1 1] w fun e w'=>e=.returned (.int .i64 ((min t.length (K.n-s.r.length):Nat):Int))∧aq w0 w' D c z K (s.write K t)∧aZ D w D w':=by
 refine(sn w (D 3) z.gr K.n rb s.r h.rg A cp t (hb.at 0 rfl) hR (fun a e hne e2=>hA a e hne ⟨3,e2⟩) hn hl hcp hcp2).mono ?_;rintro e w' ⟨rfl,hr,hs⟩;obtain⟨h1,h2⟩:=h.setR hs hr;exact⟨rfl,h1,h2⟩
theorem sG (w0 w:World) (D:Nat→Nat→Prop) (c bc bp bn:Nat) (z:Zn) (K:Kn) (s s':Cn) (n k0:Nat) (A:Option Addr) (cp:Nat) (t:ah) (h:aq w0 w D c z K s) (hK:Ed K) (hp:kt K k0 s t=some (s',n))
 (hbc:Bk w bc 30 #[.pointer (some ⟨c,0,none⟩)]) (hbp:Bk w bp 34 #[.slice A t.length cp]) (hbn:Bk w bn 3 #[.int .i64 0]) (nc:¬ck D bc) (np:¬ck D bp) (nn:¬ck D bn) (hR:ax w A (t.map aU)) (hA:∀ a,A=some a→t≠[]→¬ck D a.block∧a.block≠bn) (hn0:A=none→t.length=0∧cp=0) (hl:t.length≤100000) (hcp:t.length≤cp) (hcp2:cp≤9223372036854775807) (hw0:w0.heap.size≤bn):
 Calls Tryz.prog 38 #[.pointer (some ⟨bc,0,none⟩),.pointer (some ⟨bp,0,none⟩),.pointer (some ⟨bn,0,none⟩)] w fun e w'=>e=.returned (.tuple #[])∧∃ D',aq w0 w' D' c z K s'∧Bk w' bn 3 #[.int .i64 (n:Int)]∧Sm (fun x=>ck D x∨x=bn) w w'∧∀ k x,D' k x→D k x∨w.heap.size≤x:=by
 have HI:=aa (show ∃ m s1 D1,sE w0 w D c z K bn t s' n w k0 m s1 D1 from⟨0,s,D,⟨n,hp,Nat.zero_add _⟩,Nat.zero_le _,hbn,h,Sm.refl _ _,fun _ _ e=>Or.inl e⟩);have HB:=aa (ab hbc (ab hbp (ab nc (ab np (ab nn (ab hR (ab hA (ab hn0 (ab hl (ab hcp hcp2))))))))));have htb:bc≠bn∧bp≠bn:=by
  constructor
  ·rintro rfl;unfold Bk at hbc hbn;rw [hbc] at hbn;injection hbn with e;injection e with _ e;exact absurd e (by decide)
  ·rintro rfl;unfold Bk at hbp hbn;rw [hbp] at hbn;injection hbn with e;injection e with _ e;exact absurd e (by decide)
 have HT:=aa htb;have HLn:=aa (show bn < w.heap.size from hbn.lt);clear h hp hbc hbp hbn nc np nn hR hA hn0 htb;obtain⟨nt,hnt⟩:∃ n,t.length=n:=⟨_,rfl⟩;have HNt:=aa hnt;rw [hnt] at hl hcp;clear hnt;go_in;go_wp2_with fail
 go_loopw [3] (fun _ wr=>∃ j m s1 D1,sE w0 w D c z K bn t s' n wr j m s1 D1) (fun _ wr=>lk (fun j=>∃ m s1 D1,sE w0 w D c z K bn t s' n wr j m s1 D1))
 case atStart=>exact⟨k0,HI.out⟩
 case round=>
  obtain⟨hP,hmin⟩:=eV hrel;obtain⟨j,hj⟩:∃ j,lk (fun j=>∃ m s1 D1,sE w0 w D c z K bn t s' n wr j m s1 D1)=j:=⟨_,rfl⟩;rw [hj] at hP;have HM:=aa hj;clear hj hmin hrel;obtain⟨m,s1,D1,⟨n1,hrun,hmn⟩,hm,hbox,hcon,hsm,hnew⟩:=hP
  cases j with
  |zero=>cases hrun
  |succ j=>
   have hD1:∀ x,x < w.heap.size→¬ck D x→¬ck D1 x:=fun x hx hn ⟨k,e⟩=>by
    rcases hnew k x e with e|e
    ·exact hn ⟨k,e⟩
    ·omega
   have gbc:=HB.out.1.sm hsm (fun e=>e.elim HB.out.2.2.1 HT.out.1);have gbp:=HB.out.2.1.sm hsm (fun e=>e.elim HB.out.2.2.2.1 HT.out.2);have hRr:ax wr A (t.map aU):=by
    by_cases ht:t=[]
    ·rw [ht];exact ax.nil _ _
    ·exact HB.out.2.2.2.2.2.1.sm hsm (fun a e e2=>e2.elim (HB.out.2.2.2.2.2.2.1 a e ht).1 (HB.out.2.2.2.2.2.2.1 a e ht).2)
   obtain⟨A',c',hv',hR',hA',hc',hn',hcc⟩:=C9 (k:=m) hRr (by rw [HNt.out];exact hcp) hm HB.out.2.2.2.2.2.2.2.1;rw [HNt.out] at hv' gbp;have hm2:m≤nt:=by rw [←HNt.out];exact hm
   have hrow:∀ a,A'=some a→t.drop m≠[]→¬ck D1 a.block:=fun a e hne=>by
    obtain⟨a0,e0,hb0⟩:=hA' a e;have ht:t≠[]:=fun h0=>hne (by rw [h0];simp);obtain⟨u,l,hul⟩:=List.exists_cons_of_ne_nil ht;obtain⟨bb,off,e1,hlt, -⟩:=HB.out.2.2.2.2.2.1 0 (aU u) (by rw [hul];rfl);rw [e0] at e1;injection e1 with e1;rw [hb0,e1];exact hD1 _ hlt (by have:=(HB.out.2.2.2.2.2.2.1 a0 e0 ht).1;rwa [e1] at this)
   have HC:=aa (fun (W:World) (hs:Sm No wr W)=>show W.cell? ⟨bc,0,none⟩=some (.pointer (some ⟨c,0,none⟩))∧W.cell? ⟨c,18,none⟩=some (.pointer (some ⟨z.gr,0,none⟩))∧W.cell? ⟨bp,0,none⟩=some (.slice A nt cp)∧W.cell? ⟨bn,0,none⟩=some (.int .i64 (m:Int)) from
    ⟨(gbc.sm hs (fun e=>e)).at 0 rfl,(hcon.no hs).bk.at 18 rfl,(gbp.sm hs (fun e=>e)).at 0 rfl,(hbox.sm hs (fun e=>e)).at 0 rfl⟩)
   have k0:=HC.out wr (Sm.refl _ _);have k0d:=HC.out wr.drew (Sm.refl _ _).drew;have e1:(0:Int)≤(m:Int):=by omega
   have e2:(m:Int)≤(nt:Int):=by omega
   have e3:=gbc.lt;have e4:=gbp.lt;have e5:=hbox.lt;have e6:=hcon.bk.lt;obtain⟨wa,hwa⟩:∃ wa,(wr.alloc (.cells #[.slice A' (t.drop m).length c'] 34)).drew=wa:=⟨_,rfl⟩;have hsa:Sm No wr wa:=by rw [←hwa];exact((Sm.refl No wr).alloc _).drew
   have ka:=HC.out wa hsa;have HWr:=aa (yU (hcon.no hsa) A' c' (t.drop m) (rb:=wr.heap.size) (by rw [←hwa];exact Bk.drew (Bk.new wr _ _)) (hR'.no hsa) hrow hn' (by rw [List.length_drop,HNt.out];omega) hc' (by omega));have hdl:(t.drop m).length=nt-m:=by rw [List.length_drop,HNt.out]
   obtain⟨x,hx⟩:=ai (nt-m);rw [hx] at hdl;rw [hdl] at hwa HWr hv';have hvr:∀ a0,A=some a0→Value.slice (if cp=m then some a0 else some (a0.add m)) (nt-m) (cp-m)=.slice A' x c':=fun a0 e=>by rw [←hv',e];rfl
   have hvn:A=none→A'=none∧cp-m=c':=fun e=>by
    rw [e] at hv';unfold xF at hv';injection hv' with q1 q2 q3;exact⟨q1.symm,q3⟩
   have nbc:¬ck D1 bc:=hD1 _ HB.out.1.lt HB.out.2.2.1;have nbn:¬ck D1 bn:=hD1 _ HLn.out HB.out.2.2.2.2.1;have nbp:¬ck D1 bp:=hD1 _ HB.out.2.1.lt HB.out.2.2.2.1;have HKb:=aa (fun (W:World) (hI:aq w0 W D1 c z K (s1.write K (t.drop m))) (hG:aZ D1 wa D1 W)=>show W.cell? ⟨bc,0,none⟩=some (.pointer (some ⟨c,0,none⟩))∧W.cell? ⟨c,18,none⟩=some (.pointer (some ⟨z.gr,0,none⟩))∧W.cell? ⟨bp,0,none⟩=some (.slice A nt cp)∧W.cell? ⟨bn,0,none⟩=some (.int .i64 (m:Int)) from
    ⟨((gbc.sm hsa (fun e=>e)).sm hG.sm nbc).at 0 rfl,hI.bk.at 18 rfl,((gbp.sm hsa (fun e=>e)).sm hG.sm nbp).at 0 rfl,((hbox.sm hsa (fun e=>e)).sm hG.sm nbn).at 0 rfl⟩)
   have HNb:=aa (fun (W:World) (hI:aq w0 W D1 c z K (s1.write K (t.drop m))) (hG:aZ D1 wa D1 W)=>(hbox.sm hsa (fun e=>e)).sm hG.sm nbn);have HNn:=aa nbn;have HSa:=aa hsa;have HNd:=aa (fun (D2:Nat→Nat→Prop) (hn:∀ k x,D2 k x→D k x∨w.heap.size≤x)=>show ¬ck D2 bn from fun ⟨k,e⟩=>(hn k bn e).elim (fun e=>HB.out.2.2.2.2.1 ⟨k,e⟩) (fun e=>by have:=HLn.out;omega));have HFin:=aa (fun (W:World) (D2:Nat→Nat→Prop) (hs:Sm (fun y=>ck D1 y∨y=bn) wr W) (hn:∀ k x,D2 k x→D1 k x∨wr.heap.size≤x)=>show Sm (fun x=>ck D x∨x=bn) w W∧∀ k x,D2 k x→D k x∨w.heap.size≤x from
    ⟨hsm.trans hs (fun b hb e=>e.elim (fun ⟨k,e⟩=>(hnew k b e).elim (fun e=>Or.inl ⟨k,e⟩) (fun e=>by omega)) Or.inr),fun k x e=>(hn k x e).elim (hnew k x) (fun e=>Or.inr (Nat.le_trans hsm.size e))⟩)
   obtain⟨kk,hkk⟩:=ai (min x (K.n-s1.r.length));rw [hkk] at HWr;have HKk:=aa hkk;clear hkk;have hcx:(t.drop m).length=x:=hdl;have hxm:m+x=nt:=by omega
   have HRun:=aa (An hrun (by rw [hcx]) HKk.out);have HX:=aa (ab hcx (ab hxm (ab hx hmn)));have hkx:kk≤x:=by have:=HKk.out;omega
   have hbp0:Hid (bp≠bn∧bc≠bn):=aa ⟨HT.out.2,HT.out.1⟩;have HBox:=aa (fun (W:World) (hW:Sm (fun y=>ck D1 y∨y=bn) wr W)=>show Bk W bc 30 #[.pointer (some ⟨c,0,none⟩)]∧Bk W bp 34 #[.slice A nt cp] from⟨gbc.sm hW (fun e=>e.elim nbc HT.out.1),gbp.sm hW (fun e=>e.elim nbp HT.out.2)⟩);have HV:=aa (ab hvr hvn);have HW:=aa (ab hrun (ab hmn (ab hm (ab hbox (ab hcon (ab hsm (ab hnew (ab hsa (ab gbc gbp)))))))));clear hcx hbp0 nbc nbp nbn hvr hvn hv' hrun hmn hm hbox hcon hsm hnew hsa hD1 gbc gbp hRr hR' hA' hc' hn' hrow;obtain⟨gq,gs,gr,gp,gm⟩:=z;dsimp only at HC k0 k0d ka HWr HKb
   cases A with
   |none=>
    obtain⟨rfl,q3⟩:=HV.out.2 rfl;go_wp2_with fail
    go_region_held3 (fun w'=>w'.cell? ⟨bc,0,none⟩=some (.pointer (some ⟨c,0,none⟩))∧w'.cell? ⟨c,18,none⟩=some (.pointer (some ⟨gr,0,none⟩))∧w'.cell? ⟨bp,0,none⟩=some (.slice none nt cp)∧w'.cell? ⟨bn,0,none⟩=some (.int .i64 (m:Int))) (first|exact k0|exact k0d|exact ka|exact kb)
     ((first
       |(go_at_call 39;refine HWr.out.mono ?_;rintro e wb ⟨rfl,hIb,hGb⟩;have HBb:=aa (ab hIb hGb);have kb:=HKb.out wb hIb hGb;clear hIb hGb)))
    all_goals
     have hbn:=HNb.out wb HBb.out.1 HBb.out.2;have cbn:=hbn.at 0 (v:=.int .i64 (m:Int)) rfl;have zbn:=hbn.fz 0;have lbn:=hbn.lt;have i1:IntKind.i64.wrap ((m:Int)+(kk:Int))=(m:Int)+(kk:Int):=IntWalk.i64_in _ (by omega);obtain⟨s2,hw2,hcases⟩:=HRun.out;obtain⟨wc,hwc⟩:=ai (wb.setCell ⟨bn,0,none⟩ (.int .i64 ((m:Int)+(kk:Int))));have hsc:Sm (fun y=>y=bn) wb wc:=by rw [←hwc];exact(Sm.refl _ wb).set1 0 _
     have hIc:=HBb.out.1.out hsc (fun y e=>by rw [e];exact hw0) (fun y e=>by rw [e];exact HNn.out);have HWk:=aa (iF w0 wc D1 c ⟨gq,gs,gr,gp,gm⟩ K _ s2 bY hIc hK hw2);have hbnc:Bk wc bn 3 #[.int .i64 ((m:Int)+(kk:Int))]:=by rw [←hwc];exact(hbn.set 0 _).eq rfl
     have hswc:Sm (fun y=>ck D1 y∨y=bn) wr wc:=((HSa.out.any _).trans HBb.out.2.sm (fun _ _ e=>Or.inl e)).trans hsc (fun _ _ e=>Or.inr e);have kbc:=(HBox.out wc hswc).1.at 0 (v:=.pointer (some ⟨c,0,none⟩)) rfl;have lbc:=(HBox.out wc hswc).1.lt;have Hc:=aa (ab hbnc (ab hswc hcases));clear hbnc hswc hcases hsc hIc hbn hw2;go_upto_region 2 with fail
     try rw [hwc]
     clear hwc;go_wp2_with fail;refine HWk.out.mono ?_;rintro e wd ⟨rfl,D2,hId,hGd⟩;have hswd:Sm (fun y=>ck D1 y∨y=bn) wr wd:=Hc.out.2.1.trans hGd.sm (fun _ _ e=>Or.inl e);have hbnd:Bk wd bn 3 #[.int .i64 ((m:Int)+(kk:Int))]:=Hc.out.1.sm hGd.sm HNn.out;obtain⟨hbcd,hbpd⟩:=HBox.out wd hswd;have f0:=hbcd.at 0 (v:=.pointer (some ⟨c,0,none⟩)) rfl;have fl:=hbcd.lt;have fp0:=hbpd.at 0 rfl;have fpl:=hbpd.lt;have fn0:=hbnd.at 0 (v:=.int .i64 ((m:Int)+(kk:Int))) rfl;have fnl:=hbnd.lt;have fnz:=hbnd.fz 0;have f25:=hId.bk.at 25 (v:=.bool s2.ending) rfl;have f27:=hId.bk.at 27 (v:=.bool s2.closed) rfl;have fcl:=hId.bk.lt;have HF:=aa (HFin.out wd D2 hswd (fun k y e=>(hGd.new k y e).elim Or.inl (fun e=>Or.inr (Nat.le_trans Hc.out.2.1.size e))));have Hd:=aa (ab hId (ab hbnd hswd));clear hId hGd hswd hbnd hbcd hbpd kbc lbc cbn zbn lbn;obtain⟨eg,heg⟩:∃ b,s2.ending=b:=⟨_,rfl⟩;obtain⟨cl,hcl⟩:∃ b,s2.closed=b:=⟨_,rfl⟩;have hne2:=HT.out.2;have hne3:=Ne.symm hne2;have hcs:=Hc.out.2.2;rw [heg] at f25 hcs;rw [hcl] at f27 hcs;clear heg hcl;by_cases hstop:(eg||cl)=true
     ·rcases hcs with ⟨-,rfl,hn1⟩|⟨e, -⟩|⟨e, -⟩
      case inr.inl=>rw [hstop] at e;cases e
      case inr.inr=>rw [hstop] at e;cases e
      have hnn:n=nt:=by have:=HX.out.2.2.2;have:=HX.out.2.1;omega
      have HE:=aa (fun (W:World) (hW:wd.setCell ⟨bn,0,none⟩ (.int .i64 (nt:Int))=W)=>show ∃ D',aq w0 W D' c ⟨gq,gs,gr,gp,gm⟩ K s'∧Bk W bn 3 #[.int .i64 (n:Int)]∧Sm (fun x=>ck D x∨x=bn) w W∧∀ k x,D' k x→D k x∨w.heap.size≤x from by
       have hse:Sm (fun y=>y=bn) wd W:=by rw [←hW];exact(Sm.refl _ wd).set1 0 _
       refine⟨D2,Hd.out.1.out hse (fun y e=>by rw [e];exact hw0) (fun y e=>by rw [e];exact HNd.out D2 HF.out.2),by rw [hnn,←hW];exact(Hd.out.2.1.set 0 _).eq rfl,HF.out.1.trans hse (fun _ _ e=>Or.inr e),HF.out.2⟩)
      clear hnn
      cases eg with
      |true=>
       by_cases hk0:kk=0
       ·have k1:((kk:Int)==0)=true:=by rw [hk0];rfl
        clear hk0;go_wp2_with fail;refine bodyPost_ret (results_none rfl _ _ _) rfl ?_;exact⟨rfl,HE.out _ rfl⟩
       ·have k1:((kk:Int)==0)=false:=by simpa using hk0
        clear hk0;go_wp2_with fail;refine bodyPost_ret (results_none rfl _ _ _) rfl ?_;exact⟨rfl,HE.out _ rfl⟩
      |false=>
       have hcl:cl=true:=by simpa using hstop
       subst hcl;by_cases hk0:kk=0
       ·have k1:((kk:Int)==0)=true:=by rw [hk0];rfl
        clear hk0;go_wp2_with fail;refine bodyPost_ret (results_none rfl _ _ _) rfl ?_;exact⟨rfl,HE.out _ rfl⟩
       ·have k1:((kk:Int)==0)=false:=by simpa using hk0
        clear hk0;go_wp2_with fail;refine bodyPost_ret (results_none rfl _ _ _) rfl ?_;exact⟨rfl,HE.out _ rfl⟩
     ·obtain⟨rfl,rfl⟩:eg=false∧cl=false:=by cases eg<;>cases cl<;>simp at hstop ⊢
      rcases hcs with ⟨e, -⟩|⟨-,hk2,rfl,hn1⟩|⟨-,hk0,hkx,n2,hp2,hn1⟩
      ·cases e
      ·have HE:∃ D',aq w0 wd D' c ⟨gq,gs,gr,gp,gm⟩ K s'∧Bk wd bn 3 #[.int .i64 (n:Int)]∧Sm (fun x=>ck D x∨x=bn) w wd∧∀ k x,D' k x→D k x∨w.heap.size≤x:=
        ⟨D2,Hd.out.1,by rw [show (n:Int)=(m:Int)+(kk:Int) from by have:=HX.out.2.2.2;omega];exact Hd.out.2.1,HF.out.1,HF.out.2⟩
       have HE:=aa HE;by_cases hk0:kk=0
       ·have k1:((kk:Int)==0)=true:=by rw [hk0];rfl
        clear hk0 hk2;go_wp2_with fail;refine bodyPost_ret (results_none rfl _ _ _) rfl ?_;exact⟨rfl,HE.out⟩
       ·have k1:((kk:Int)==0)=false:=by simpa using hk0
        have k2:((m:Int)+(kk:Int)==(nt:Int))=true:=by
         have:=HX.out.2.1;rcases hk2 with e|e
         ·exact absurd e hk0
         ·rw [show (m:Int)+(kk:Int)=(nt:Int) from by omega];simp
        clear hk0 hk2;go_wp2_with fail;refine bodyPost_ret (results_none rfl _ _ _) rfl ?_;exact⟨rfl,HE.out⟩
      ·have k1:((kk:Int)==0)=false:=by simpa using hk0
       have k2:((m:Int)+(kk:Int)==(nt:Int))=false:=by
        have:=HX.out.2.1;rw [beq_eq_false_iff_ne];omega
       have hP:sE w0 w D c ⟨gq,gs,gr,gp,gm⟩ K bn t s' n wd j (m+kk) s2 D2:=⟨⟨n2,by rw [←List.drop_drop];exact hp2,by have:=HX.out.2.2.2;omega⟩,by rw [HNt.out];omega,Hd.out.2.1,Hd.out.1,HF.out.1,HF.out.2⟩;have HPh:=aa hP;clear hP hp2 hk0 hkx;go_wp2_with fail;refine⟨⟨j,m+kk,s2,D2,HPh.out⟩,?_⟩;have:=(eV (P:=fun j=>∃ m s1 D1,sE w0 w D c ⟨gq,gs,gr,gp,gm⟩ K bn t s' n wd j m s1 D1) ⟨j,m+kk,s2,D2,HPh.out⟩).2 j ⟨m+kk,s2,D2,HPh.out⟩;rw [HM.out];omega
   |some a0=>
    have h3:(cp=m)=True∧A'=some a0∧cp-m=c'∨(cp=m)=False∧A'=some (a0.add m)∧cp-m=c':=by
     have hv0:=HV.out.1 a0 rfl;by_cases hcm:cp=m
     ·rw [if_pos hcm] at hv0;injection hv0 with q1 q2 q3;exact Or.inl ⟨eq_true hcm,q1.symm,q3⟩
     ·rw [if_neg hcm] at hv0;injection hv0 with q1 q2 q3;exact Or.inr ⟨eq_false hcm,q1.symm,q3⟩
    rcases h3 with ⟨hcm2,rfl,q3⟩|⟨hcm2,rfl,q3⟩
    all_goals
     go_wp2_with fail
     go_region_held3 (fun w'=>w'.cell? ⟨bc,0,none⟩=some (.pointer (some ⟨c,0,none⟩))∧w'.cell? ⟨c,18,none⟩=some (.pointer (some ⟨gr,0,none⟩))∧w'.cell? ⟨bp,0,none⟩=some (.slice (some a0) nt cp)∧w'.cell? ⟨bn,0,none⟩=some (.int .i64 (m:Int))) (first|exact k0|exact k0d|exact ka|exact kb)
      ((first
        |(go_at_call 39;refine HWr.out.mono ?_;rintro e wb ⟨rfl,hIb,hGb⟩;have HBb:=aa (ab hIb hGb);have kb:=HKb.out wb hIb hGb;clear hIb hGb)))
     all_goals
      have hbn:=HNb.out wb HBb.out.1 HBb.out.2;have cbn:=hbn.at 0 (v:=.int .i64 (m:Int)) rfl;have zbn:=hbn.fz 0;have lbn:=hbn.lt;have i1:IntKind.i64.wrap ((m:Int)+(kk:Int))=(m:Int)+(kk:Int):=IntWalk.i64_in _ (by omega);obtain⟨s2,hw2,hcases⟩:=HRun.out;obtain⟨wc,hwc⟩:=ai (wb.setCell ⟨bn,0,none⟩ (.int .i64 ((m:Int)+(kk:Int))));have hsc:Sm (fun y=>y=bn) wb wc:=by rw [←hwc];exact(Sm.refl _ wb).set1 0 _
      have hIc:=HBb.out.1.out hsc (fun y e=>by rw [e];exact hw0) (fun y e=>by rw [e];exact HNn.out);have HWk:=aa (iF w0 wc D1 c ⟨gq,gs,gr,gp,gm⟩ K _ s2 bY hIc hK hw2);have hbnc:Bk wc bn 3 #[.int .i64 ((m:Int)+(kk:Int))]:=by rw [←hwc];exact(hbn.set 0 _).eq rfl
      have hswc:Sm (fun y=>ck D1 y∨y=bn) wr wc:=((HSa.out.any _).trans HBb.out.2.sm (fun _ _ e=>Or.inl e)).trans hsc (fun _ _ e=>Or.inr e);have kbc:=(HBox.out wc hswc).1.at 0 (v:=.pointer (some ⟨c,0,none⟩)) rfl;have lbc:=(HBox.out wc hswc).1.lt;have Hc:=aa (ab hbnc (ab hswc hcases));clear hbnc hswc hcases hsc hIc hbn hw2;go_upto_region 2 with fail
      try rw [hwc]
      clear hwc;go_wp2_with fail;refine HWk.out.mono ?_;rintro e wd ⟨rfl,D2,hId,hGd⟩;have hswd:Sm (fun y=>ck D1 y∨y=bn) wr wd:=Hc.out.2.1.trans hGd.sm (fun _ _ e=>Or.inl e);have hbnd:Bk wd bn 3 #[.int .i64 ((m:Int)+(kk:Int))]:=Hc.out.1.sm hGd.sm HNn.out;obtain⟨hbcd,hbpd⟩:=HBox.out wd hswd;have f0:=hbcd.at 0 (v:=.pointer (some ⟨c,0,none⟩)) rfl;have fl:=hbcd.lt;have fp0:=hbpd.at 0 rfl;have fpl:=hbpd.lt;have fn0:=hbnd.at 0 (v:=.int .i64 ((m:Int)+(kk:Int))) rfl;have fnl:=hbnd.lt;have fnz:=hbnd.fz 0;have f25:=hId.bk.at 25 (v:=.bool s2.ending) rfl;have f27:=hId.bk.at 27 (v:=.bool s2.closed) rfl;have fcl:=hId.bk.lt;have HF:=aa (HFin.out wd D2 hswd (fun k y e=>(hGd.new k y e).elim Or.inl (fun e=>Or.inr (Nat.le_trans Hc.out.2.1.size e))));have Hd:=aa (ab hId (ab hbnd hswd));clear hId hGd hswd hbnd hbcd hbpd kbc lbc cbn zbn lbn;obtain⟨eg,heg⟩:∃ b,s2.ending=b:=⟨_,rfl⟩;obtain⟨cl,hcl⟩:∃ b,s2.closed=b:=⟨_,rfl⟩;have hne2:=HT.out.2;have hne3:=Ne.symm hne2;have hcs:=Hc.out.2.2;rw [heg] at f25 hcs;rw [hcl] at f27 hcs;clear heg hcl;by_cases hstop:(eg||cl)=true
      ·rcases hcs with ⟨-,rfl,hn1⟩|⟨e, -⟩|⟨e, -⟩
       case inr.inl=>rw [hstop] at e;cases e
       case inr.inr=>rw [hstop] at e;cases e
       have hnn:n=nt:=by have:=HX.out.2.2.2;have:=HX.out.2.1;omega
       have HE:=aa (fun (W:World) (hW:wd.setCell ⟨bn,0,none⟩ (.int .i64 (nt:Int))=W)=>show ∃ D',aq w0 W D' c ⟨gq,gs,gr,gp,gm⟩ K s'∧Bk W bn 3 #[.int .i64 (n:Int)]∧Sm (fun x=>ck D x∨x=bn) w W∧∀ k x,D' k x→D k x∨w.heap.size≤x from by
        have hse:Sm (fun y=>y=bn) wd W:=by rw [←hW];exact(Sm.refl _ wd).set1 0 _
        refine⟨D2,Hd.out.1.out hse (fun y e=>by rw [e];exact hw0) (fun y e=>by rw [e];exact HNd.out D2 HF.out.2),by rw [hnn,←hW];exact(Hd.out.2.1.set 0 _).eq rfl,HF.out.1.trans hse (fun _ _ e=>Or.inr e),HF.out.2⟩)
       clear hnn
       cases eg with
       |true=>
        by_cases hk0:kk=0
        ·have k1:((kk:Int)==0)=true:=by rw [hk0];rfl
         clear hk0;go_wp2_with fail;refine bodyPost_ret (results_none rfl _ _ _) rfl ?_;exact⟨rfl,HE.out _ rfl⟩
        ·have k1:((kk:Int)==0)=false:=by simpa using hk0
         clear hk0;go_wp2_with fail;refine bodyPost_ret (results_none rfl _ _ _) rfl ?_;exact⟨rfl,HE.out _ rfl⟩
       |false=>
        have hcl:cl=true:=by simpa using hstop
        subst hcl;by_cases hk0:kk=0
        ·have k1:((kk:Int)==0)=true:=by rw [hk0];rfl
         clear hk0;go_wp2_with fail;refine bodyPost_ret (results_none rfl _ _ _) rfl ?_;exact⟨rfl,HE.out _ rfl⟩
        ·have k1:((kk:Int)==0)=false:=by simpa using hk0
         clear hk0;go_wp2_with fail;refine bodyPost_ret (results_none rfl _ _ _) rfl ?_;exact⟨rfl,HE.out _ rfl⟩
      ·obtain⟨rfl,rfl⟩:eg=false∧cl=false:=by cases eg<;>cases cl<;>simp at hstop ⊢
       rcases hcs with ⟨e, -⟩|⟨-,hk2,rfl,hn1⟩|⟨-,hk0,hkx,n2,hp2,hn1⟩
       ·cases e
       ·have HE:∃ D',aq w0 wd D' c ⟨gq,gs,gr,gp,gm⟩ K s'∧Bk wd bn 3 #[.int .i64 (n:Int)]∧Sm (fun x=>ck D x∨x=bn) w wd∧∀ k x,D' k x→D k x∨w.heap.size≤x:=
         ⟨D2,Hd.out.1,by rw [show (n:Int)=(m:Int)+(kk:Int) from by have:=HX.out.2.2.2;omega];exact Hd.out.2.1,HF.out.1,HF.out.2⟩
        have HE:=aa HE;by_cases hk0:kk=0
        ·have k1:((kk:Int)==0)=true:=by rw [hk0];rfl
         clear hk0 hk2;go_wp2_with fail;refine bodyPost_ret (results_none rfl _ _ _) rfl ?_;exact⟨rfl,HE.out⟩
        ·have k1:((kk:Int)==0)=false:=by simpa using hk0
         have k2:((m:Int)+(kk:Int)==(nt:Int))=true:=by
          have:=HX.out.2.1;rcases hk2 with e|e
          ·exact absurd e hk0
          ·rw [show (m:Int)+(kk:Int)=(nt:Int) from by omega];simp
         clear hk0 hk2;go_wp2_with fail;refine bodyPost_ret (results_none rfl _ _ _) rfl ?_;exact⟨rfl,HE.out⟩
       ·have k1:((kk:Int)==0)=false:=by simpa using hk0
        have k2:((m:Int)+(kk:Int)==(nt:Int))=false:=by
         have:=HX.out.2.1;rw [beq_eq_false_iff_ne];omega
        have hP:sE w0 w D c ⟨gq,gs,gr,gp,gm⟩ K bn t s' n wd j (m+kk) s2 D2:=⟨⟨n2,by rw [←List.drop_drop];exact hp2,by have:=HX.out.2.2.2;omega⟩,by rw [HNt.out];omega,Hd.out.2.1,Hd.out.1,HF.out.1,HF.out.2⟩;have HPh:=aa hP;clear hP hp2 hk0 hkx;go_wp2_with fail;refine⟨⟨j,m+kk,s2,D2,HPh.out⟩,?_⟩;have:=(eV (P:=fun j=>∃ m s1 D1,sE w0 w D c ⟨gq,gs,gr,gp,gm⟩ K bn t s' n wd j m s1 D1) ⟨j,m+kk,s2,D2,HPh.out⟩).2 j ⟨m+kk,s2,D2,HPh.out⟩;rw [HM.out];omega
theorem zO(w0 w:World)(D:Nat→Nat→Prop)(c:Nat)(z:Zn)(K:Kn)(s:Cn)(h:aq w0 w D c z K s)(A:Option Addr)(cp n:Nat)(now:Int)(hs:(s.ending||(s.ended||s.closed))=true):
 Calls Tryz.prog 12 #[.pointer (some ⟨c,0,none⟩),.slice A n cp,.int .i64 now] w fun e w'=>e=.returned (.int .i64 (n:Int))∧Sm No w w':=by
 have hcl:=h.bk.lt;have c25:=h.bk.at 25 (v:=.bool s.ending) rfl;have c26:=h.bk.at 26 (v:=.bool s.ended) rfl;have c27:=h.bk.at 27 (v:=.bool s.closed) rfl;obtain⟨x,hx⟩:∃ b,s.ending=b:=⟨_,rfl⟩;obtain⟨y,hy⟩:∃ b,s.ended=b:=⟨_,rfl⟩;obtain⟨u,hu⟩:∃ b,s.closed=b:=⟨_,rfl⟩;rw [hx] at c25 hs;rw [hy] at c26 hs;rw [hu] at c27 hs;clear h hx hy hu;have HS:=aa ((((Sm.refl No w).alloc (.cells #[.pointer (some ⟨c,0,none⟩)] 30)).alloc (.cells #[.slice A n cp] 34)))
 cases x with
 |true=>
  go_in;go_wp2_with fail;go_ret;exact⟨rfl,HS.out⟩
 |false=>
  cases y with
  |true=>
   go_in;go_wp2_with fail;go_ret;exact⟨rfl,HS.out⟩
  |false=>
   obtain rfl:u=true:=by simpa using hs
   go_in;go_wp2_with fail;go_ret;exact⟨rfl,HS.out⟩
theorem ut (w0 w:World) (D:Nat→Nat→Prop) (c:Nat) (z:Zn) (K:Kn) (s s':Cn) (n:Nat) (A:Option Addr) (cp:Nat) (t:ah) (now:Int) (h:aq w0 w D c z K s) (hK:Ed K) (hp:rM K s t now=some (s',n))
 (hR:ax w A (t.map aU)) (hA:∀ a,A=some a→t≠[]→¬ck D a.block) (hn0:A=none→t.length=0∧cp=0) (hl:t.length≤100000) (hcp:t.length≤cp) (hcp2:cp≤9223372036854775807):
 Calls Tryz.prog 12 #[.pointer (some ⟨c,0,none⟩),.slice A t.length cp,.int .i64 now] w fun e w'=>e=.returned (.int .i64 (n:Int))∧∃ D',aq w0 w' D' c z K s'∧aZ D w D' w':=by
 unfold rM at hp
 cases hst:(s.ending||(s.ended||s.closed)) with
 |true=>
  rw [hst,if_pos rfl] at hp;injection hp with hp;injection hp with h1 h2;subst h1 h2;refine(zO w0 w D c z K s h A cp t.length now hst).mono ?_;rintro e w' ⟨rfl,hs⟩;exact⟨rfl,D,h.no hs,aZ.no D hs⟩
 |false=>
  rw [hst,if_neg (by decide)] at hp
  cases hpf:kt K bY s t with
  |none=>rw [hpf] at hp;cases hp
  |some q=>
   obtain⟨s1,n1⟩:=q;rw [hpf] at hp;dsimp only at hp;unfold ET at hp;dsimp only at hp
   cases hw:lp K s1 with
   |none=>rw [hw] at hp;cases hp
   |some s2=>
    rw [hw] at hp;dsimp only at hp;injection hp with hp;injection hp with h1 h2;subst h2;have hcl:=h.bk.lt;have c25:=h.bk.at 25 (v:=.bool s.ending) rfl;have c26:=h.bk.at 26 (v:=.bool s.ended) rfl;have c27:=h.bk.at 27 (v:=.bool s.closed) rfl;simp only [Bool.or_eq_false_iff] at hst;rw [hst.1] at c25;rw [hst.2.1] at c26;rw [hst.2.2] at c27;obtain⟨nt,hnt⟩:∃ n,t.length=n:=⟨_,rfl⟩;rw [hnt];go_in;go_upto_region 6 with fail;obtain⟨w1,hw1⟩:∃ w1,((w.alloc (.cells #[.pointer (some ⟨c,0,none⟩)] 30)).alloc (.cells #[.slice A nt cp] 34)).alloc (.cells #[.int .i64 0] 3)=w1:=⟨_,rfl⟩;rw [hw1];have hs1:Sm No w w1:=by rw [←hw1];exact(((Sm.refl No w).alloc _).alloc _).alloc _
    obtain⟨b0,hb0⟩:∃ b,w.heap.size=b:=⟨_,rfl⟩;have hbc:Bk w1 b0 30 #[.pointer (some ⟨c,0,none⟩)]:=by rw [←hw1,←hb0];exact((Bk.new w _ _).alloc _).alloc _
    have hbp:Bk w1 (b0+1) 34 #[.slice A t.length cp]:=by rw [←hw1,hnt,←hb0];exact(Bk.newAt (w.alloc _) _ _ (by simp)).alloc _
    have hbn:Bk w1 (b0+1+1) 3 #[.int .i64 0]:=by rw [←hw1,←hb0];exact Bk.newAt ((w.alloc _).alloc _) _ _ (by simp)
    have hnD:∀ x,b0≤x→¬ck D x:=fun x hx ⟨k,e⟩=>by have:=h.reg.lt k x e;omega
    have hRA:∀ a,A=some a→t≠[]→a.block≠b0+1+1:=fun a e ht=>by
     obtain⟨u,l,hul⟩:=List.exists_cons_of_ne_nil ht;obtain⟨bb,off,e1,hlt, -⟩:=hR 0 (aU u) (by rw [hul];rfl);rw [e] at e1;injection e1 with e1;rw [e1];show bb≠_;omega
    have hw0:w0.heap.size≤b0:=by rw [←hb0];exact h.reg.sm.size
    have HD:=aa (vr w0 w1 D c z K s s1 s2 now 38 #[.pointer (some ⟨b0,0,none⟩),.pointer (some ⟨b0+1,0,none⟩),.pointer (some ⟨b0+1+1,0,none⟩)]
     (fun W D1=>Bk W (b0+1+1) 3 #[.int .i64 (n1:Int)]∧Sm (fun x=>ck D x∨x=b0+1+1) w1 W∧∀ k x,D1 k x→D k x∨w1.heap.size≤x) (h.no hs1) hK we (fun W hW=>by
      refine(sG w0 W D c b0 (b0+1) (b0+1+1) z K s s1 n1 bY A cp t ((h.no hs1).no hW) hK hpf (hbc.sm hW (fun e=>e)) (hbp.sm hW (fun e=>e)) (hbn.sm hW (fun e=>e)) (hnD _ (by omega)) (hnD _ (by omega)) (hnD _ (by omega)) ((hR.no hs1).no hW) (fun a e ht=>⟨hA a e ht,hRA a e ht⟩) hn0 hl hcp hcp2 (by omega)).mono ?_;rintro e w' ⟨rfl,D',hI',hb',hs',hn'⟩;exact⟨rfl,D',hI',hb',(hW.any _).tt hs',fun k x e=>(hn' k x e).elim Or.inl (fun e=>Or.inr (Nat.le_trans hW.size e))⟩) hw)
    have HH:=aa (ab h (ab hs1 (ab hbn.lt (ab (hnD (b0+1+1) (by omega)) (ab hb0 h1)))));rw [hb0];have g0:=hbc.at 0 (v:=.pointer (some ⟨c,0,none⟩)) rfl;have gl:=hbc.lt;clear hw1 hs1 hb0 hbc hbp hbn hnD hRA hw0 h hpf hw hR hA hn0 hK c25 c26 c27 hst h1;go_wp2_with fail;refine HD.out.mono ?_;rintro e w3 ⟨rfl,D3,w2,D1,hI3,⟨hb2,hs2,hn2⟩,hG3⟩;have hn1:¬ck D1 (b0+1+1):=fun ⟨k,e⟩=>(hn2 k _ e).elim (fun e=>HH.out.2.2.2.1 ⟨k,e⟩) (fun e=>by have:=HH.out.2.2.1;omega);have hb3:=hb2.sm hG3.sm hn1;have q0:=hb3.at 0 (v:=.int .i64 (n1:Int)) rfl;have ql:=hb3.lt;have HF:=aa (show ∃ D',aq w0 w3 D' c z K s'∧aZ D w D' w3 from⟨D3,by rw [←HH.out.2.2.2.2.2];exact hI3,(((HH.out.2.1.any (ck D)).trans hs2 (fun b hb e=>e.elim (fun e=>e) (fun e=>by have:=HH.out.2.2.2.2.1;omega))).trans hG3.sm (fun b hb ⟨k,e⟩=>(hn2 k b e).elim (fun e=>⟨k,e⟩) (fun e=>by have:=HH.out.2.1.size;omega))),fun k x e=>(hG3.new k x e).elim (fun e=>(hn2 k x e).elim Or.inl (fun e=>Or.inr (Nat.le_trans HH.out.2.1.size e))) (fun e=>Or.inr (Nat.le_trans (Nat.le_trans HH.out.2.1.size hs2.size) e))⟩);clear hI3 hb2 hs2 hn2 hG3 hn1 hb3;go_wp2_with fail;go_ret;exact⟨rfl,HF.out⟩
end Go.Proofs.YtadcjgopaadfjaaGreatDoor
