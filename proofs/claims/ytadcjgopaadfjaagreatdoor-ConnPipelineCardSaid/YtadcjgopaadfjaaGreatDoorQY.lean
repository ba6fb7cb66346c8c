import Derived.Test.YtadcjgopaadfjaaGreatDoorQG
import Derived.Test.YtadcjgopaadfjaaGreatDoorQC
import Derived.Test.YtadcjgopaadfjaaGreatDoorQJ
set_option maxHeartbeats 16000000
set_option maxRecDepth 100000
namespace Go.Proofs.YtadcjgopaadfjaaGreatDoor
open Go.RowKit Go.Proofs
def E7(w:World)(q:Rq)(A:Option Addr)(c:Nat)(B:Option Addr)(d:Nat):Prop:=
 ec w A q.fs∧(A=none→q.fs.length=0∧c=0)∧ax w B (aL q.body)∧(B=none→q.body.length=0∧d=0)∧q.m.size≤30000∧q.path.size≤30000∧q.query.size≤30000∧(∀ x∈q.fs,x.1.size≤30000∧x.2.size≤30000)∧q.fs.length≤30000∧q.body.length≤30000
theorem EK{T:List br}{q:Rq}{R:fQ}(h:co T q=R)(h4:q.form=4):aD 204 [dS m4]=R:=by
 rw [←h];unfold co;rw [if_pos h4]
theorem pF{T:List br}{q:Rq}{R:fQ}(h:co T q=R)(h4:¬q.form=4)(h3:q.form=3∨af q.m∉m4):aD 501 []=R:=by
 rw [←h];unfold co;rw [if_neg h4,if_pos h3]
theorem EI{T:List br}{q:Rq}{R:fQ}(h:co T q=R)(h4:¬q.form=4)(h3:¬(q.form=3∨af q.m∉m4)):
 (if (aW (ao T) (af q.m) (af q.path)).2.2.2=404 then aD 404 [] else
 if (aW (ao T) (af q.m) (af q.path)).2.2.2=405 then aD (if af q.m=DC then 204 else 405) [dS (aW (ao T) (af q.m) (af q.path)).2.2.1] else
 Dg T q (aW (ao T) (af q.m) (af q.path)).1)=R:=by
 rw [←h];unfold co;rw [if_neg h4,if_neg h3]
theorem Eo{l:List aM}{name:ByteArray}(h:∀ x∈l,x.2.size≤30000)(hl:l.length≤24):(ee l name).length≤900000:=by
 have hv:∀ x∈ak l name,x.size≤30000:=by
  intro x hx;unfold ak at hx;obtain⟨y,hy,rfl⟩:=List.mem_map.mp hx;exact h y (List.mem_filter.1 hy).1
 have hn:=iE l name;have hk:∀ xs:List ByteArray,(∀ x∈xs,x.size≤30000)→Lib.lens (xs.map (·.data.toList))≤30000 * xs.length:=by
  intro xs
  induction xs with
  |nil=>intro _;simp [Lib.lens]
  |cons x xs ih=>
   intro h;have h1:=ih (fun y hy=>h y (List.mem_cons_of_mem _ hy));have h2:=h x (List.mem_cons_self ..);have h3:x.data.toList.length=x.size:=by simp
   simp only [Lib.lens,List.map_cons,List.sum_cons,List.length_cons] at h1 ⊢;omega
 unfold ee
 cases hc:ak l name with
 |nil=>simp [Lib.join_nil]
 |cons x xs=>
  rw [hc] at hv hn;rw [List.map_cons,Lib.join_length];have:=hk (x::xs) hv;simp only [List.map_cons,List.length_cons,List.length_map] at this hn ⊢;have h2:jg.length=2:=rfl;rw [h2];omega
theorem gK(w:World)(A:Option Addr)(c:Nat)(l:List UInt8)(hA:ax w A (aL l))(h0:A=none→l.length=0∧c=0)(hl:l.length≤1000000):
 Calls Tryz.prog 42 #[.slice A l.length c] w fun e w'=>∃ v,e=.returned v∧je w' w.heap.size 5 v l∧Sm No w w':=by
 cases A with
 |none=>
  have:=List.eq_nil_of_length_eq_zero (h0 rfl).1;subst this;exact(Tryz.bytes_Clone_nil 0 c w).mono fun e w' ⟨he,hw⟩=>⟨_,he,aH.nil _ _ _ _,hw ▸ Sm.refl _ _⟩
 |some a=>
  have e1:(l.map (fun c=>(c.toNat:Int))).map (Value.int .u8)=aL l:=by rw [List.map_map];rfl
  have hc:=Tryz.bytes_Clone_at a l.length c (l.map (fun c=>(c.toNat:Int))) w (by simp) (by omega) (fun i hi=>by
   obtain⟨bb,off,e,_,h⟩:=hA.at (j:=i) (u:=.int .u8 (l[i].toNat:Int)) (by unfold aL;rw [List.getElem?_map,List.getElem?_eq_getElem hi];rfl);injection e with e;subst e;have e2:(l.map (fun c=>(c.toNat:Int))).getD i 0=(l[i].toNat:Int):=by
    rw [List.getD_eq_getElem?_getD,List.getElem?_map,List.getElem?_eq_getElem hi];rfl
   rw [e2];by_cases hi0:i=0
   ·subst hi0;simpa [Addr.add] using h
   ·simpa [Addr.add,hi0] using h)
  rw [e1] at hc;exact hc.mono fun e w' ⟨v,he,ho,_,hb⟩=>⟨v,he,aH.of ho,Sm.of_below hb No⟩
def Hb(w:World)(T:List br)(q:ah)(i:Value)(wr:World):Prop:=∃ k:Nat,k≤T.length∧i=.int .i64 k∧(∀ x∈T.take k,af x.path≠47::q)∧Sm No w wr
theorem Em{T:List br}{q:ah}{k:Nat}{x:br}(h:∀ y∈T.take k,af y.path≠47::q)(hx:T[k]?=some x)(he:af x.path=47::q):qn T q=AF (bS cw) (af x.data):=by
 have hf:T.find? (fun x=>af x.path==47::q)=some x:=by
  rw [List.find?_eq_some_iff_append];refine⟨by simpa using he,T.take k,T.drop (k+1),?_,fun y hy=>by simpa using h y hy⟩;obtain⟨hlt,e⟩:=List.getElem?_eq_some_iff.1 hx;rw [←e,List.getElem_cons_drop,List.take_append_drop]
 unfold qn;rw [hf]
theorem zE{T:List br}{q:ah}(h:∀ y∈T,af y.path≠47::q):qn T q=aD 404 []:=by
 have hf:T.find? (fun x=>af x.path==47::q)=none:=by
  rw [List.find?_eq_none];intro y hy;simpa using h y hy
 unfold qn;rw [hf]
theorem Fw:pV m4:=⟨by decide,by decide⟩
theorem lr(n:Nat):(cS n).length=(n+15) / 16:=by simp [cS]
theorem uy(n j:Nat)(h:j < (n+15) / 16):(cS n).take (j+1)=(cS n).take j++[min (16 * (j+1)) n]:=by
 have hj:j < (cS n).length:=by rw [lr];exact h
 rw [List.take_add_one,List.getElem?_eq_getElem hj];simp [cS]
theorem xT(n j:Nat)(h:j=(n+15) / 16):(cS n).take j=cS n:=by
 rw [List.take_of_length_le (by rw [lr];omega)]
theorem wn(l:List Nat)(n:Nat):lA (l++[n])=lA l++[.int .i64 n]:=by simp [lA]
theorem EY:(Tryz.prog.info? 3).map (fun i=>(i.zero,i.size,i.bytes))=some (some (.int .i64 0),1,8):=by kernel_rfl
def Gy(W:World)(g:Nat)(vF vB:Value)(n:Nat)(i:Value)(wr:World):Prop:=
 ∃ (j:Nat) (vP:Value),j≤(n+15) / 16∧i=.int .i64 (16 * ((j:Int)+1))∧aH wr (g+1) 3 1 vP j (lA ((cS n).take j))∧Bk wr g 93 #[.int .i64 200,vF,vB,vP]∧Sm No W wr
theorem Gy.push {W wr w5:World} {g j n:Nat} {vF vB vP v':Value} {a b:Value} (hg:W.heap.size=g) (hj:j < (n+15) / 16) (hO:aH wr (g+1) 3 1 vP j (lA ((cS n).take j))) (hb:Bk wr g 93 #[.int .i64 200,vF,vB,vP]) (hs:Sm No W wr)
 (ho:aH w5 (g+1) 3 1 v' (j+1) (lA ((cS n).take j)++[.int .i64 ((min (16 * (j+1)) n:Nat):Int)])) (h5:Sm (fun b=>vP.ownBlock=some b) (wr.alloc (.cells #[a] 3)) w5) (hi:b=.int .i64 (16 * (((j+1:Nat):Int)+1))):
 Gy W g vF vB n b (w5.setCell ⟨g,3,none⟩ v'):=by
 have h6:Sm (fun b=>b=g) w5 (w5.setCell ⟨g,3,none⟩ v'):=(Sm.refl _ w5).set1 3 v';have hb5:=(hb.alloc (.cells #[a] 3)).sm h5 (fun e=>by have:=(hO.lt g e).1;omega);refine⟨j+1,v',hj,hi,?_,hb5.set 3 v',((hs.alloc (.cells #[a] 3)).fresh h5 (fun b e=>by have:=(hO.lt b e).1;omega)).fresh h6 (fun b e=>by omega)⟩;rw [uy n j hj,wn];exact ho.sm h6 (fun b e1 e2=>by have:=(ho.lt b e1).1;omega)
theorem vV(w:World)(hg:G1 w)(O:Nat→Prop)(s:Nat)(T:List br)(h:ft w O s T)(hT:T.length≤40)(hsm:nM T)(q:Rq)(A:Option Addr)(c:Nat)(B:Option Addr)(d:Nat)(hq:E7 w q A c B d):
 Calls Tryz.prog 101 #[.pointer (some ⟨s,0,none⟩),DD q A c B d] w (kI w w.heap.size (co T q)):=by
 obtain⟨Q,r,vT,hR,hS,hE,_,_⟩:=h;obtain⟨AT,cT,rfl,hAT,_⟩:=au hE;obtain⟨m,form,host,path,query,minor,fs,body,close,expect⟩:=q;have HQ:=aa hq;have HS:=aa (ab hR (ab hS (ab hE (ab hAT hsm))));have HG:=aa hg;clear hR hS hE hAT hsm hg hq;unfold DD;dsimp only at HQ ⊢;obtain⟨R,hRR⟩:=ai (co T ⟨m,form,host,path,query,minor,fs,body,close,expect⟩);rw [hRR];have HRR:=aa hRR;clear hRR;obtain⟨b0,hb0⟩:=ai w.heap.size;have HR0:=aa hb0;rw [hb0];clear hb0;go_in;by_cases hf:form=4
 ·subst hf;go_wp2_with fail;rw [HR0.out];obtain⟨w1,hw1⟩:∃ w1,((w.alloc (.cells #[.string m,.int .i64 4,.string host,.string path,.string query,.int .i64 minor,.slice A fs.length c,.slice B body.length d,.bool close,.bool expect] 172)).alloc (.cells #[.int .i64 0,.slice none 0 0,.slice none 0 0,.slice none 0 0] 93)).alloc (.cells #[.string ⟨#[71,69,84]⟩,.string ⟨#[72,69,65,68]⟩,.string ⟨#[79,80,84,73,79,78,83]⟩,.string ⟨#[80,79,83,84]⟩] 9)=w1:=⟨_,rfl⟩;rw [hw1];have hs1:Sm No w w1:=by rw [←hw1];exact(((Sm.refl No w).alloc _).alloc _).alloc _
  have hbq:Bk w1 b0 172 #[.string m,.int .i64 4,.string host,.string path,.string query,.int .i64 minor,.slice A fs.length c,.slice B body.length d,.bool close,.bool expect]:=by rw [←hw1,←HR0.out];exact((Bk.new w _ _).alloc _).alloc _
  have hbr:Bk w1 (b0+1) 93 #[.int .i64 0,.slice none 0 0,.slice none 0 0,.slice none 0 0]:=by rw [←hw1];exact(Bk.newAt _ _ _ (by rw [←HR0.out];simp)).alloc _
  have hbm:Bk w1 (b0+1+1) 9 #[.string ⟨#[71,69,84]⟩,.string ⟨#[72,69,65,68]⟩,.string ⟨#[79,80,84,73,79,78,83]⟩,.string ⟨#[80,79,83,84]⟩]:=by rw [←hw1];exact Bk.newAt _ _ _ (by rw [←HR0.out];simp)
  have H1:=aa (ab hs1 (ab hbq (ab hbr hbm)));clear hs1 hbq hbr hbm hw1;refine(jF w1 (HG.out.no H1.out.1) 204 (by decide) (by decide) (some ⟨b0+1+1,0,none⟩) 4 m4 (dt H1.out.2.2.2) Fw (by decide)).mono ?_;rintro e w3 ⟨v,rfl,hR,hs3⟩;have hb3:=(H1.out.2.2.1).sm hs3 (fun h=>h);have hs3:=(H1.out.1).tt hs3;have hlt:b0+1 < w1.heap.size:=(H1.out.2.2.1).lt;rw [EK HRR.out rfl] at hR;obtain⟨vF,vB,vP,rfl,hFF,hB,hP⟩:=hR;obtain⟨A1,c1',rfl,_⟩:=hFF.row;obtain⟨A2,c2',rfl,_⟩:=hB.row;obtain⟨A3,c3',rfl,_⟩:=hP.row;have HD:=aa (bX (by rw [HR0.out];omega) hs3 hb3 hlt ⟨_,_,_,rfl,hFF,hB,hP⟩);have hl:=hb3.lt;have f0:=hb3.fz 0;have f1:=hb3.fz 1;have f2:=hb3.fz 2;have f3:=hb3.fz 3;have d0:=hb3.at 0 rfl;have d1:=hb3.at 1 rfl;have d2:=hb3.at 2 rfl;have d3:=hb3.at 3 rfl;clear hFF hB hP hb3 hs3 hlt;go_wp2_with fail;have c0:=HD.out.2.at 0 rfl;have c1:=HD.out.2.at 1 rfl;have c2:=HD.out.2.at 2 rfl;have c3:=HD.out.2.at 3 rfl;exact bodyPost_ret (v:=.agg #[.int .i64 R.st,.slice A1 R.fs.length c1',.slice A2 R.body.length c2',.slice A3 R.parts.length c3']) (by simp [results,Tryz.results101,go_sem,c0,c1,c2,c3]) rfl (by have h:=HD.out.1;rw [HR0.out] at h;exact h)
 by_cases hf3:form=3
 ·subst hf3;go_wp2_with fail;rw [HR0.out];obtain⟨w1,hw1⟩:∃ w1,((w.alloc (.cells #[.string m,.int .i64 3,.string host,.string path,.string query,.int .i64 minor,.slice A fs.length c,.slice B body.length d,.bool close,.bool expect] 172)).alloc (.cells #[.int .i64 0,.slice none 0 0,.slice none 0 0,.slice none 0 0] 93)).alloc (.cells #[.string ⟨#[71,69,84]⟩,.string ⟨#[72,69,65,68]⟩,.string ⟨#[79,80,84,73,79,78,83]⟩,.string ⟨#[80,79,83,84]⟩] 9)=w1:=⟨_,rfl⟩;rw [hw1];have hs1:Sm No w w1:=by rw [←hw1];exact(((Sm.refl No w).alloc _).alloc _).alloc _
  have hbq:Bk w1 b0 172 #[.string m,.int .i64 3,.string host,.string path,.string query,.int .i64 minor,.slice A fs.length c,.slice B body.length d,.bool close,.bool expect]:=by rw [←hw1,←HR0.out];exact((Bk.new w _ _).alloc _).alloc _
  have hbr:Bk w1 (b0+1) 93 #[.int .i64 0,.slice none 0 0,.slice none 0 0,.slice none 0 0]:=by rw [←hw1];exact(Bk.newAt _ _ _ (by rw [←HR0.out];simp)).alloc _
  have hbm:Bk w1 (b0+1+1) 9 #[.string ⟨#[71,69,84]⟩,.string ⟨#[72,69,65,68]⟩,.string ⟨#[79,80,84,73,79,78,83]⟩,.string ⟨#[80,79,83,84]⟩]:=by rw [←hw1];exact Bk.newAt _ _ _ (by rw [←HR0.out];simp)
  have H1:=aa (ab hs1 (ab hbq (ab hbr hbm)));clear hs1 hbq hbr hbm hw1;refine(eF w1 (HG.out.no (H1.out.1)) 501 (by decide) (by decide) none 0 [] (fun k hk=>by cases hk) (fun _=>⟨rfl,rfl⟩) (by decide)).mono ?_;rintro e w3 ⟨v,rfl,hR,hs3⟩;have hb3:=(H1.out.2.2.1).sm hs3 (fun h=>h);have hs3:=(H1.out.1).tt hs3;have hlt:b0+1 < w1.heap.size:=(H1.out.2.2.1).lt;rw [show aD 501 []=R from(pF HRR.out (show ¬(3:Int)=4 by decide) (Or.inl rfl))] at hR;obtain⟨vF,vB,vP,rfl,hFF,hB,hP⟩:=hR;obtain⟨A1,c1',rfl,_⟩:=hFF.row;obtain⟨A2,c2',rfl,_⟩:=hB.row;obtain⟨A3,c3',rfl,_⟩:=hP.row;have HD:=aa (bX (by rw [HR0.out];omega) hs3 hb3 hlt ⟨_,_,_,rfl,hFF,hB,hP⟩);have hl:=hb3.lt;have f0:=hb3.fz 0;have f1:=hb3.fz 1;have f2:=hb3.fz 2;have f3:=hb3.fz 3;have d0:=hb3.at 0 rfl;have d1:=hb3.at 1 rfl;have d2:=hb3.at 2 rfl;have d3:=hb3.at 3 rfl;clear hFF hB hP hb3 hs3 hlt;go_wp2_with fail;have c0:=HD.out.2.at 0 rfl;have c1:=HD.out.2.at 1 rfl;have c2:=HD.out.2.at 2 rfl;have c3:=HD.out.2.at 3 rfl;exact bodyPost_ret (v:=.agg #[.int .i64 R.st,.slice A1 R.fs.length c1',.slice A2 R.body.length c2',.slice A3 R.parts.length c3']) (by simp [results,Tryz.results101,go_sem,c0,c1,c2,c3]) rfl (by have h:=HD.out.1;rw [HR0.out] at h;exact h)
 go_wp2_with fail;rw [HR0.out];obtain⟨w1,hw1⟩:∃ w1,((w.alloc (.cells #[.string m,.int .i64 form,.string host,.string path,.string query,.int .i64 minor,.slice A fs.length c,.slice B body.length d,.bool close,.bool expect] 172)).alloc (.cells #[.int .i64 0,.slice none 0 0,.slice none 0 0,.slice none 0 0] 93)).alloc (.cells #[.string ⟨#[71,69,84]⟩,.string ⟨#[72,69,65,68]⟩,.string ⟨#[79,80,84,73,79,78,83]⟩,.string ⟨#[80,79,83,84]⟩] 9)=w1:=⟨_,rfl⟩;rw [hw1];have hs1:Sm No w w1:=by rw [←hw1];exact(((Sm.refl No w).alloc _).alloc _).alloc _
 have hbq:Bk w1 b0 172 #[.string m,.int .i64 form,.string host,.string path,.string query,.int .i64 minor,.slice A fs.length c,.slice B body.length d,.bool close,.bool expect]:=by rw [←hw1,←HR0.out];exact((Bk.new w _ _).alloc _).alloc _
 have hbr:Bk w1 (b0+1) 93 #[.int .i64 0,.slice none 0 0,.slice none 0 0,.slice none 0 0]:=by rw [←hw1];exact(Bk.newAt _ _ _ (by rw [←HR0.out];simp)).alloc _
 have hbm:Bk w1 (b0+1+1) 9 #[.string ⟨#[71,69,84]⟩,.string ⟨#[72,69,65,68]⟩,.string ⟨#[79,80,84,73,79,78,83]⟩,.string ⟨#[80,79,83,84]⟩]:=by rw [←hw1];exact Bk.newAt _ _ _ (by rw [←HR0.out];simp)
 have H1:=aa (ab hs1 (ab hbq (ab hbr hbm)));clear hs1 hbq hbr hbm hw1;obtain⟨bm,hbm⟩:=ai (m4.contains (af m));have HBM:=aa hbm;refine(dY HBM w1 (some ⟨b0+1+1,0,none⟩) 4 (dt H1.out.2.2.2) (by decide)).mono ?_;rintro e w2 ⟨rfl,hw2⟩;subst hw2
 cases bm with
 |false=>
  have hnm:af m∉m4:=fun h=>by rw [List.contains_iff_mem.2 h] at hbm;cases hbm
  clear hbm;go_wp2_with fail;refine(eF w2 (HG.out.no (H1.out.1)) 501 (by decide) (by decide) none 0 [] (fun k hk=>by cases hk) (fun _=>⟨rfl,rfl⟩) (by decide)).mono ?_;rintro e w3 ⟨v,rfl,hR,hs3⟩;have hb3:=(H1.out.2.2.1).sm hs3 (fun h=>h);have hs3:=(H1.out.1).tt hs3;have hlt:b0+1 < w2.heap.size:=(H1.out.2.2.1).lt;rw [show aD 501 []=R from(pF HRR.out hf (Or.inr hnm))] at hR;obtain⟨vF,vB,vP,rfl,hFF,hB,hP⟩:=hR;obtain⟨A1,c1',rfl,_⟩:=hFF.row;obtain⟨A2,c2',rfl,_⟩:=hB.row;obtain⟨A3,c3',rfl,_⟩:=hP.row;have HD:=aa (bX (by rw [HR0.out];omega) hs3 hb3 hlt ⟨_,_,_,rfl,hFF,hB,hP⟩);have hl:=hb3.lt;have f0:=hb3.fz 0;have f1:=hb3.fz 1;have f2:=hb3.fz 2;have f3:=hb3.fz 3;have d0:=hb3.at 0 rfl;have d1:=hb3.at 1 rfl;have d2:=hb3.at 2 rfl;have d3:=hb3.at 3 rfl;clear hFF hB hP hb3 hs3 hlt;go_wp2_with fail;have c0:=HD.out.2.at 0 rfl;have c1:=HD.out.2.at 1 rfl;have c2:=HD.out.2.at 2 rfl;have c3:=HD.out.2.at 3 rfl;exact bodyPost_ret (v:=.agg #[.int .i64 R.st,.slice A1 R.fs.length c1',.slice A2 R.body.length c2',.slice A3 R.parts.length c3']) (by simp [results,Tryz.results101,go_sem,c0,c1,c2,c3]) rfl (by have h:=HD.out.1;rw [HR0.out] at h;exact h)
 |true=>
  have hno:¬(form=3∨af m∉m4):=fun h=>by
   rcases h with h|h
   ·exact hf3 h
   ·exact h (List.contains_iff_mem.1 hbm)
  have hm2:=EI HRR.out hf hno;have hms:=(vU T (af m) (af path)).resolve_right (by omega);have hMP:=fun (W:World) (hW:aT W Q r (ao T))=>zG W Q r (ao T) m path hW (by rw [fx];omega) (fun x hx=>Nat.le_trans ((iD hT).2 x hx) (by decide)) (by have:=HQ.out.2.2.2.2.2.1;dsimp only at this;omega);unfold cx at hMP;dsimp only at hm2;obtain⟨⟨i,rest,al,st⟩,hM⟩:∃ M,aW (ao T) (af m) (af path)=M:=⟨_,rfl⟩;rw [hM] at hm2 hms;simp only [hM] at hMP;obtain⟨rb,hrb⟩:∃ rb:ByteArray,fp rest=.string rb:=⟨_,rfl⟩;rw [hrb] at hMP;dsimp only at hm2 hms;have HMP:=aa hMP;have HM2:=aa hm2;have HMS:=aa hms;clear hm2 hms hMP hM hrb hbm hno;have c0:=(HS.out.2.1.sm H1.out.1 (fun h=>h)).at 0 (v:=.pointer (some ⟨r,0,none⟩)) rfl;have q0:=H1.out.2.1.at 0 (v:=.string m) rfl;have q3:=H1.out.2.1.at 3 (v:=.string path) rfl;have hsl:=(HS.out.2.1.sm H1.out.1 (fun h=>h)).lt;have hql:=H1.out.2.1.lt;go_wp2_with fail
  go_region_held3 (fun w'=>w'.cell? ⟨s,0,none⟩=some (.pointer (some ⟨r,0,none⟩))∧w'.cell? ⟨b0,0,none⟩=some (.string m)∧w'.cell? ⟨b0,3,none⟩=some (.string path)) (first|exact⟨c0,q0,q3⟩|exact⟨c9,q9,q39⟩|go_keep)
   ((go_at_call 130;(with_reducible refine(HMP.out _ (HS.out.1.no (H1.out.1.drew))).mono ?_);rintro e w9 ⟨v9,rfl,hv9,hs9⟩;have c9:=hs9.cell hsl c0;have q9:=hs9.cell hql q0;have q39:=hs9.cell hql q3))
  all_goals
   obtain⟨AV,cV,rfl,hrV,hcV,_⟩:=au hv9;have hs19:Sm No w w9:=H1.out.1.drew.tt hs9;have hbr9:=H1.out.2.2.1.drew.sm hs9 (fun h=>h);have hbq9:=H1.out.2.1.drew.sm hs9 (fun h=>h);have H9:=aa (ab hs19 (ab hbr9 (ab hbq9 (ab hrV hcV))));have q9:=hbq9.at 0 (v:=.string m) rfl;have q69:=hbq9.at 6 (v:=.slice A fs.length c) rfl;have q79:=hbq9.at 7 (v:=.slice B body.length d) rfl;have hql:=hbq9.lt;clear hs9 hv9 hs19 hbr9 hbq9 hrV hcV c9 q39 c0 q0 q3 hsl;rcases HMS.out with h404|⟨h405,hsml⟩|⟨h200,hid⟩
   ·subst h404;have HE:=aa (show aD 404 []=R from by have e:=HM2.out;rw [if_pos rfl] at e;exact e);go_wp2_with fail;refine(eF w9 (HG.out.no (H9.out.1)) 404 (by decide) (by decide) none 0 [] (fun k hk=>by cases hk) (fun _=>⟨rfl,rfl⟩) (by decide)).mono ?_;rintro e w3 ⟨v,rfl,hR,hs3⟩;have hb3:=(H9.out.2.1).sm hs3 (fun h=>h);have hs3:=(H9.out.1).tt hs3;have hlt:b0+1 < w9.heap.size:=(H9.out.2.1).lt;rw [show aD 404 []=R from HE.out] at hR;obtain⟨vF,vB,vP,rfl,hFF,hB,hP⟩:=hR;obtain⟨A1,c1',rfl,_⟩:=hFF.row;obtain⟨A2,c2',rfl,_⟩:=hB.row;obtain⟨A3,c3',rfl,_⟩:=hP.row;have HD:=aa (bX (by rw [HR0.out];omega) hs3 hb3 hlt ⟨_,_,_,rfl,hFF,hB,hP⟩);have hl:=hb3.lt;have f0:=hb3.fz 0;have f1:=hb3.fz 1;have f2:=hb3.fz 2;have f3:=hb3.fz 3;have d0:=hb3.at 0 rfl;have d1:=hb3.at 1 rfl;have d2:=hb3.at 2 rfl;have d3:=hb3.at 3 rfl;clear hFF hB hP hb3 hs3 hlt;go_wp2_with fail;have c0:=HD.out.2.at 0 rfl;have c1:=HD.out.2.at 1 rfl;have c2:=HD.out.2.at 2 rfl;have c3:=HD.out.2.at 3 rfl;exact bodyPost_ret (v:=.agg #[.int .i64 R.st,.slice A1 R.fs.length c1',.slice A2 R.body.length c2',.slice A3 R.parts.length c3']) (by simp [results,Tryz.results101,go_sem,c0,c1,c2,c3]) rfl (by have h:=HD.out.1;rw [HR0.out] at h;exact h)
   ·subst h405;by_cases hO:af m=DC
    ·have e1:(m.toList==[79,80,84,73,79,78,83])=true:=by rw [cN];exact decide_eq_true hO
     have e2:m.toList=[79,80,84,73,79,78,83]:=by simpa using e1
     have HE:=aa (show aD 204 [dS al]=R from by have e:=HM2.out;rw [if_neg (by decide),if_pos rfl,if_pos hO] at e;exact e);go_wp2_with fail;refine(jF w9 (HG.out.no H9.out.1) 204 (by decide) (by decide) AV cV al H9.out.2.2.2.1 hsml H9.out.2.2.2.2).mono ?_;rintro e w3 ⟨v,rfl,hR,hs3⟩;have hb3:=(H9.out.2.1).sm hs3 (fun h=>h);have hs3:=(H9.out.1).tt hs3;have hlt:b0+1 < w9.heap.size:=(H9.out.2.1).lt;rw [HE.out] at hR;obtain⟨vF,vB,vP,rfl,hFF,hB,hP⟩:=hR;obtain⟨A1,c1',rfl,_⟩:=hFF.row;obtain⟨A2,c2',rfl,_⟩:=hB.row;obtain⟨A3,c3',rfl,_⟩:=hP.row;have HD:=aa (bX (by rw [HR0.out];omega) hs3 hb3 hlt ⟨_,_,_,rfl,hFF,hB,hP⟩);have hl:=hb3.lt;have f0:=hb3.fz 0;have f1:=hb3.fz 1;have f2:=hb3.fz 2;have f3:=hb3.fz 3;have d0:=hb3.at 0 rfl;have d1:=hb3.at 1 rfl;have d2:=hb3.at 2 rfl;have d3:=hb3.at 3 rfl;clear hFF hB hP hb3 hs3 hlt;go_wp2_with fail;have c0:=HD.out.2.at 0 rfl;have c1:=HD.out.2.at 1 rfl;have c2:=HD.out.2.at 2 rfl;have c3:=HD.out.2.at 3 rfl;exact bodyPost_ret (v:=.agg #[.int .i64 R.st,.slice A1 R.fs.length c1',.slice A2 R.body.length c2',.slice A3 R.parts.length c3']) (by simp [results,Tryz.results101,go_sem,c0,c1,c2,c3]) rfl (by have h:=HD.out.1;rw [HR0.out] at h;exact h)
    ·have e1:(m.toList==[79,80,84,73,79,78,83])=false:=by rw [cN];exact decide_eq_false hO
     have e2:¬m.toList=[79,80,84,73,79,78,83]:=by simpa using e1
     have HE:=aa (show aD 405 [dS al]=R from by have e:=HM2.out;rw [if_neg (by decide),if_pos rfl,if_neg hO] at e;exact e);go_wp2_with fail;refine(jF w9 (HG.out.no H9.out.1) 405 (by decide) (by decide) AV cV al H9.out.2.2.2.1 hsml H9.out.2.2.2.2).mono ?_;rintro e w3 ⟨v,rfl,hR,hs3⟩;have hb3:=(H9.out.2.1).sm hs3 (fun h=>h);have hs3:=(H9.out.1).tt hs3;have hlt:b0+1 < w9.heap.size:=(H9.out.2.1).lt;rw [HE.out] at hR;obtain⟨vF,vB,vP,rfl,hFF,hB,hP⟩:=hR;obtain⟨A1,c1',rfl,_⟩:=hFF.row;obtain⟨A2,c2',rfl,_⟩:=hB.row;obtain⟨A3,c3',rfl,_⟩:=hP.row;have HD:=aa (bX (by rw [HR0.out];omega) hs3 hb3 hlt ⟨_,_,_,rfl,hFF,hB,hP⟩);have hl:=hb3.lt;have f0:=hb3.fz 0;have f1:=hb3.fz 1;have f2:=hb3.fz 2;have f3:=hb3.fz 3;have d0:=hb3.at 0 rfl;have d1:=hb3.at 1 rfl;have d2:=hb3.at 2 rfl;have d3:=hb3.at 3 rfl;clear hFF hB hP hb3 hs3 hlt;go_wp2_with fail;have c0:=HD.out.2.at 0 rfl;have c1:=HD.out.2.at 1 rfl;have c2:=HD.out.2.at 2 rfl;have c3:=HD.out.2.at 3 rfl;exact bodyPost_ret (v:=.agg #[.int .i64 R.st,.slice A1 R.fs.length c1',.slice A2 R.body.length c2',.slice A3 R.parts.length c3']) (by simp [results,Tryz.results101,go_sem,c0,c1,c2,c3]) rfl (by have h:=HD.out.1;rw [HR0.out] at h;exact h)
   ·subst h200;have HE:=aa (show Dg T ⟨m,form,host,path,query,minor,fs,body,close,expect⟩ i=R from by have e:=HM2.out;rw [if_neg (by decide),if_neg (by decide)] at e;exact e);rcases hid with h1|h2|h3|⟨k,x,hx,hk⟩
    ·subst h1;go_wp2_with fail;have hsh:jr fs:=fun y hy=>⟨by have:=(HQ.out.2.2.2.2.2.2.2.1 y hy).1;omega,by have:=(HQ.out.2.2.2.2.2.2.2.1 y hy).2;omega⟩;have hgl:(ee (bh [] fs).1 (bS kQ)).length≤900000∨24 < (bh [] fs).1.length:=by
      by_cases h24:24 < (bh [] fs).1.length
      ·exact Or.inr h24
      ·exact Or.inl (Eo (fun y hy=>by
        rcases nU fs [] y hy with g|⟨g,_⟩
        ·cases g
        ·exact(HQ.out.2.2.2.2.2.2.2.1 y g).2) (by omega))
     have HSh:=aa (ab (uk hsh) hgl);refine(wz w9 fs A c (HQ.out.1.no H9.out.1) hsh (by have:=HQ.out.2.2.2.2.2.2.2.2.1;dsimp only at this;omega)).mono ?_;rintro e w10 ⟨g,v10,rfl,hg10,hF10,hl10,hs10⟩;have HF10:=aa (ab hF10 hs10);have hgl:=hgl.resolve_right (by omega);clear hsh hg10 hF10 hs10;go_wp2_with fail;refine(xE w10 _ g v10 _ (bS kQ) HF10.out.1 hl10 HSh.out.1 (by decide)).mono ?_;rintro e w11 ⟨rfl,hs11⟩;obtain⟨gt,hgt⟩:=ai ((⟨(ee (bh [] fs).1 (bS kQ)).toArray⟩:ByteArray));have hgt2:gt.data.toList=ee (bh [] fs).1 (bS kQ):=by rw [←hgt]
     have hgs:gt.size≤900000:=by rw [←hgt];exact hgl
     rw [hgt];obtain⟨tr,htr⟩:=ai ((⟨(ay gt.data.toList).toArray⟩:ByteArray));have HTr:=aa htr;have HS11:=aa (ab (HF10.out.2.tt hs11) (ab hgt2 hgs));clear hgt hgt2 hgl hs11 htr;go_wp2_with fail;refine(fA HTr (by omega) w11).mono ?_;rintro e w12 ⟨rfl,hs12⟩;have hs912:Sm No w9 w12:=HS11.out.1.tt hs12;have hb12:=H9.out.2.2.1.sm hs912 (fun h=>h);have q79:=hb12.at 7 (v:=.slice B body.length d) rfl;have hql:=hb12.lt;have H12:=aa (ab hs912 hb12);clear hs12 hs912 hb12 q69 q9;have htr:af tr=ay (ee (bh [] fs).1 (bS kQ)):=by rw [←HTr.out,HS11.out.2.1];rfl
     by_cases hz:tr.size=0
     ·have htz:af tr=[]:=List.eq_nil_of_length_eq_zero (by rw [ag];exact hz);have e2:tr.toList=[]:=by rw [ByteArray.toList_eq];exact htz
      have HE2:=aa (show AF (bS pW) body=R from by
       rw [←HE.out];unfold Dg lz;rw [if_pos rfl,if_pos (htr.symm.trans htz)])
      clear htr htz;go_wp2_with fail;refine(gK w12 B d body (HQ.out.2.2.1.no (H9.out.1.tt H12.out.1)) HQ.out.2.2.2.1 (by have:=HQ.out.2.2.2.2.2.2.2.2.2;dsimp only at this;omega)).mono ?_;rintro e w13 ⟨vb,rfl,hvb,hs13⟩;have HS13:=aa (ab hvb hs13);clear hvb hs13;go_wp2_with fail;refine(mf w13 w12.heap.size HS13.out.2.size (bS pW) vb body HS13.out.1).mono ?_;rintro e w3 ⟨v,rfl,hR,hs3⟩;have hb3:=((H9.out.2.1.sm H12.out.1 (fun h=>h)).sm HS13.out.2 (fun h=>h)).sm hs3 (fun h=>h);have hlt:b0+1 < w12.heap.size:=(H9.out.2.1.sm H12.out.1 (fun h=>h)).lt;have hs3:=((H9.out.1.tt H12.out.1).tt HS13.out.2).tt hs3;rw [HE2.out] at hR;obtain⟨vF,vB,vP,rfl,hFF,hB,hP⟩:=hR;obtain⟨A1,c1',rfl,_⟩:=hFF.row;obtain⟨A2,c2',rfl,_⟩:=hB.row;obtain⟨A3,c3',rfl,_⟩:=hP.row;have HD:=aa (bX (by rw [HR0.out];omega) hs3 hb3 hlt ⟨_,_,_,rfl,hFF,hB,hP⟩);have hl:=hb3.lt;have f0:=hb3.fz 0;have f1:=hb3.fz 1;have f2:=hb3.fz 2;have f3:=hb3.fz 3;have d0:=hb3.at 0 rfl;have d1:=hb3.at 1 rfl;have d2:=hb3.at 2 rfl;have d3:=hb3.at 3 rfl;clear hFF hB hP hb3 hs3 hlt;go_wp2_with fail;have c0:=HD.out.2.at 0 rfl;have c1:=HD.out.2.at 1 rfl;have c2:=HD.out.2.at 2 rfl;have c3:=HD.out.2.at 3 rfl;exact bodyPost_ret (v:=.agg #[.int .i64 R.st,.slice A1 R.fs.length c1',.slice A2 R.body.length c2',.slice A3 R.parts.length c3']) (by simp [results,Tryz.results101,go_sem,c0,c1,c2,c3]) rfl (by have h:=HD.out.1;rw [HR0.out] at h;exact h)
     ·have htz:¬af tr=[]:=fun e=>hz (by rw [←ag,e];rfl);have e2:¬tr.toList=[]:=by rw [ByteArray.toList_eq];exact htz
      have e2b:tr.toList.isEmpty=false:=by
       cases h:tr.toList with
       |nil=>exact absurd h e2
       |cons=>rfl
      have HE2:=aa (show AF tr body=R from by
       rw [←HE.out];unfold Dg lz;rw [if_pos rfl,if_neg (fun e=>htz (htr.trans e)),←htr];rfl)
      clear htr htz;go_wp2_with fail;refine(gK w12 B d body (HQ.out.2.2.1.no (H9.out.1.tt H12.out.1)) HQ.out.2.2.2.1 (by have:=HQ.out.2.2.2.2.2.2.2.2.2;dsimp only at this;omega)).mono ?_;rintro e w13 ⟨vb,rfl,hvb,hs13⟩;have HS13:=aa (ab hvb hs13);clear hvb hs13;go_wp2_with fail;refine(mf w13 w12.heap.size HS13.out.2.size tr vb body HS13.out.1).mono ?_;rintro e w3 ⟨v,rfl,hR,hs3⟩;have hb3:=((H9.out.2.1.sm H12.out.1 (fun h=>h)).sm HS13.out.2 (fun h=>h)).sm hs3 (fun h=>h);have hlt:b0+1 < w12.heap.size:=(H9.out.2.1.sm H12.out.1 (fun h=>h)).lt;have hs3:=((H9.out.1.tt H12.out.1).tt HS13.out.2).tt hs3;rw [HE2.out] at hR;obtain⟨vF,vB,vP,rfl,hFF,hB,hP⟩:=hR;obtain⟨A1,c1',rfl,_⟩:=hFF.row;obtain⟨A2,c2',rfl,_⟩:=hB.row;obtain⟨A3,c3',rfl,_⟩:=hP.row;have HD:=aa (bX (by rw [HR0.out];omega) hs3 hb3 hlt ⟨_,_,_,rfl,hFF,hB,hP⟩);have hl:=hb3.lt;have f0:=hb3.fz 0;have f1:=hb3.fz 1;have f2:=hb3.fz 2;have f3:=hb3.fz 3;have d0:=hb3.at 0 rfl;have d1:=hb3.at 1 rfl;have d2:=hb3.at 2 rfl;have d3:=hb3.at 3 rfl;clear hFF hB hP hb3 hs3 hlt;go_wp2_with fail;have c0:=HD.out.2.at 0 rfl;have c1:=HD.out.2.at 1 rfl;have c2:=HD.out.2.at 2 rfl;have c3:=HD.out.2.at 3 rfl;exact bodyPost_ret (v:=.agg #[.int .i64 R.st,.slice A1 R.fs.length c1',.slice A2 R.body.length c2',.slice A3 R.parts.length c3']) (by simp [results,Tryz.results101,go_sem,c0,c1,c2,c3]) rfl (by have h:=HD.out.1;rw [HR0.out] at h;exact h)
    ·subst h2;have hS9:=(HS.out.2.1.sm H9.out.1 (fun h=>h));have c1:=hS9.at 1 (v:=.slice AT T.length cT) rfl;have hsl:=hS9.lt;have HTb:=aa (fR (ae HS.out.2.2.1 H9.out.1 (fun _ _ h=>h)));have HE2:=aa (show qn T (af query)=R from by
      rw [←HE.out];unfold Dg;rw [if_neg (by decide),if_pos rfl])
     have q49:=H9.out.2.2.1.at 4 (v:=.string query) rfl;clear hS9;go_wp2_with fail
     go_loopw [96] (fun i wr=>Hb w9 T (af query) i wr) (fun i _=>T.length-(intOf i).toNat)
     case atStart=>exact⟨0,Nat.zero_le _,rfl,by simp,Sm.refl _ _⟩
     case round=>
      obtain⟨k,hk,rfl,hne,hs⟩:=hrel;have hs9:=H9.out.1.tt hs;have hbq:=H9.out.2.2.1.sm hs (fun h=>h);have hbr:=H9.out.2.1.sm hs (fun h=>h);have q49:=hbq.at 4 (v:=.string query) rfl;have hql:=hbq.lt;have HK:=aa (ab hs9 (ab hbr (ab hs hne)));clear hs9 hbq hbr c1 hsl q69 q79 q9;by_cases hlt:k < T.length
      ·obtain⟨x,hx⟩:∃ x,T[k]?=some x:=⟨_,List.getElem?_eq_getElem hlt⟩;obtain⟨t1,t2,t3⟩:=cW hx;obtain⟨bb,off,hAe,hbb,r0⟩:=(HTb.out.no hs).at t1;subst hAe;obtain⟨_,_,hA1,_,r1⟩:=(HTb.out.no hs).at t2;injection hA1 with hA1;injection hA1 with e1 e2;subst e1 e2;obtain⟨_,_,hA1,_,r2⟩:=(HTb.out.no hs).at t3;injection hA1 with hA1;injection hA1 with e1 e2;subst e1 e2;rw [show off+(k * 3+1)=off+k * 3+1 by omega] at r1;rw [show off+(k * 3+2)=off+k * 3+2 by omega] at r2;have k1:(0:Int)≤(k:Int):=by omega
       have k2:(k:Int) < (T.length:Int):=by omega
       obtain⟨s1,s2,s3⟩:=HS.out.2.2.2.2 x (List.mem_of_getElem? hx);have hqz:query.size≤30000:=HQ.out.2.2.2.2.2.2.1;have HX:=aa hx;clear hx t1 t2 t3 hs hne;by_cases he:af x.path=47::af query
       ·have e1:(x.path.toList==(((⟨#[47]⟩:ByteArray)++query).toList))=true:=by
         rw [cN];exact decide_eq_true (by rw [he,ByteArray.toList_eq];simp [af])
        have e2:x.path.toList=((⟨#[47]⟩:ByteArray)++query).toList:=by simpa using e1
        have HE3:=aa ((Em HK.out.2.2.2 HX.out he).symm.trans HE2.out);clear he;go_wp2_with (refine db rfl 9 34 5 _ rfl _ rfl Tryz.underlying9 Tryz.underlying34 Tryz.underlying5 wr.heap.size (by simp) (by unfold maxLen;omega) ?_;intro cB w6 hOB hsB hzB;refine RowKit.Hid.out ?_);refine aa ?_;simp only [World.size_alloc] at hOB;have hs6:=(HK.out.1.alloc (.cells #[.string x.path,.string x.type,.string x.data] 101)).tt hsB;have hb6:=(HK.out.2.1.alloc (.cells #[.string x.path,.string x.type,.string x.data] 101)).sm hsB (fun h=>h);have hw6:wr.heap.size≤w6.heap.size:=Nat.le_trans (by simp) hsB.size;have H6:=aa (ab hs6 (ab hb6 (ab hOB hw6)));clear hs6 hb6 hOB hw6 hsB hzB;go_wp2_with fail;refine(mf w6 wr.heap.size H6.out.2.2.2 (bS cw) _ (af x.data) H6.out.2.2.1).mono ?_;rintro e w3 ⟨v,rfl,hR,hs3⟩;have hb3:=H6.out.2.1.sm hs3 (fun h=>h);have hlt:b0+1 < wr.heap.size:=HK.out.2.1.lt;have hs3:=H6.out.1.tt hs3;rw [HE3.out] at hR;obtain⟨vF,vB,vP,rfl,hFF,hB,hP⟩:=hR;obtain⟨A1,c1',rfl,_⟩:=hFF.row;obtain⟨A2,c2',rfl,_⟩:=hB.row;obtain⟨A3,c3',rfl,_⟩:=hP.row;have HD:=aa (bX (by rw [HR0.out];omega) hs3 hb3 hlt ⟨_,_,_,rfl,hFF,hB,hP⟩);have hl:=hb3.lt;have f0:=hb3.fz 0;have f1:=hb3.fz 1;have f2:=hb3.fz 2;have f3:=hb3.fz 3;have d0:=hb3.at 0 rfl;have d1:=hb3.at 1 rfl;have d2:=hb3.at 2 rfl;have d3:=hb3.at 3 rfl;clear hFF hB hP hb3 hs3 hlt;go_wp2_with fail;have c0:=HD.out.2.at 0 rfl;have c1:=HD.out.2.at 1 rfl;have c2:=HD.out.2.at 2 rfl;have c3:=HD.out.2.at 3 rfl;exact bodyPost_ret (v:=.agg #[.int .i64 R.st,.slice A1 R.fs.length c1',.slice A2 R.body.length c2',.slice A3 R.parts.length c3']) (by simp [results,Tryz.results101,go_sem,c0,c1,c2,c3]) rfl (by have h:=HD.out.1;rw [HR0.out] at h;exact h)
       ·have e1:(x.path.toList==(((⟨#[47]⟩:ByteArray)++query).toList))=false:=by
         rw [cN];exact decide_eq_false (fun e=>he (by rw [e,ByteArray.toList_eq];simp [af]))
        have e2:¬x.path.toList=((⟨#[47]⟩:ByteArray)++query).toList:=by simpa using e1
        have HN:=aa (gD (p:=fun x=>af x.path≠47::af query) HK.out.2.2.2 HX.out he);clear he;go_wp2_with fail;exact⟨⟨k+1,by omega,by go_num,HN.out,HK.out.2.2.1.alloc _⟩,by simp [intOf];omega⟩
      ·obtain rfl:k=T.length:=by omega
       rw [List.take_length] at hne;have HE3:=aa ((zE hne).symm.trans HE2.out);clear hne hs;go_wp2_with fail;refine(eF wr (HG.out.no (HK.out.1)) 404 (by decide) (by decide) none 0 [] (fun k hk=>by cases hk) (fun _=>⟨rfl,rfl⟩) (by decide)).mono ?_;rintro e w3 ⟨v,rfl,hR,hs3⟩;have hb3:=(HK.out.2.1).sm hs3 (fun h=>h);have hs3:=(HK.out.1).tt hs3;have hlt:b0+1 < wr.heap.size:=(HK.out.2.1).lt;rw [show aD 404 []=R from HE3.out] at hR;obtain⟨vF,vB,vP,rfl,hFF,hB,hP⟩:=hR;obtain⟨A1,c1',rfl,_⟩:=hFF.row;obtain⟨A2,c2',rfl,_⟩:=hB.row;obtain⟨A3,c3',rfl,_⟩:=hP.row;have HD:=aa (bX (by rw [HR0.out];omega) hs3 hb3 hlt ⟨_,_,_,rfl,hFF,hB,hP⟩);have hl:=hb3.lt;have f0:=hb3.fz 0;have f1:=hb3.fz 1;have f2:=hb3.fz 2;have f3:=hb3.fz 3;have d0:=hb3.at 0 rfl;have d1:=hb3.at 1 rfl;have d2:=hb3.at 2 rfl;have d3:=hb3.at 3 rfl;clear hFF hB hP hb3 hs3 hlt;go_wp2_with fail;have c0:=HD.out.2.at 0 rfl;have c1:=HD.out.2.at 1 rfl;have c2:=HD.out.2.at 2 rfl;have c3:=HD.out.2.at 3 rfl;exact bodyPost_ret (v:=.agg #[.int .i64 R.st,.slice A1 R.fs.length c1',.slice A2 R.body.length c2',.slice A3 R.parts.length c3']) (by simp [results,Tryz.results101,go_sem,c0,c1,c2,c3]) rfl (by have h:=HD.out.1;rw [HR0.out] at h;exact h)
    ·subst h3;have HE2:=aa (show AF (bS cw) [111,107,10]=R from by
      rw [←HE.out];unfold Dg;rw [if_neg (by decide),if_neg (by decide),if_pos rfl])
     have hOb:je (w9.alloc (.cells #[.int .u8 111,.int .u8 107,.int .u8 10] 5 (3,4))) w9.heap.size 5 (.slice (some ⟨w9.heap.size,0,none⟩) 3 3) [111,107,10]:=
      ⟨rfl,Or.inr ⟨w9.heap.size,3,_,(3,4),rfl,Nat.le_refl _,heap_alloc_new w9 _,Or.inr (by decide),by decide,by decide,rfl,rfl⟩⟩
     have HOb:=aa hOb;clear hOb;have kc:=fun (w:World) (C:Array Value) (n c:Nat)=>Lib.run_convert_bytes_const (P:=Tryz.prog) w 34 5 C n c Tryz.underlying34 Tryz.underlying5;go_wp2_with fail;refine(mf _ w9.heap.size (by simp) (bS cw) _ [111,107,10] HOb.out).mono ?_;rintro e w3 ⟨v,rfl,hR,hs3⟩;have hb3:=(H9.out.2.1.alloc (.cells #[.int .u8 111,.int .u8 107,.int .u8 10] 5 (3,4))).sm hs3 (fun h=>h);have hlt:b0+1 < w9.heap.size:=H9.out.2.1.lt;have hs3:=(H9.out.1.alloc (.cells #[.int .u8 111,.int .u8 107,.int .u8 10] 5 (3,4))).tt hs3;rw [HE2.out] at hR;obtain⟨vF,vB,vP,rfl,hFF,hB,hP⟩:=hR;obtain⟨A1,c1',rfl,_⟩:=hFF.row;obtain⟨A2,c2',rfl,_⟩:=hB.row;obtain⟨A3,c3',rfl,_⟩:=hP.row;have HD:=aa (bX (by rw [HR0.out];omega) hs3 hb3 hlt ⟨_,_,_,rfl,hFF,hB,hP⟩);have hl:=hb3.lt;have f0:=hb3.fz 0;have f1:=hb3.fz 1;have f2:=hb3.fz 2;have f3:=hb3.fz 3;have d0:=hb3.at 0 rfl;have d1:=hb3.at 1 rfl;have d2:=hb3.at 2 rfl;have d3:=hb3.at 3 rfl;clear hFF hB hP hb3 hs3 hlt;go_wp2_with fail;have c0:=HD.out.2.at 0 rfl;have c1:=HD.out.2.at 1 rfl;have c2:=HD.out.2.at 2 rfl;have c3:=HD.out.2.at 3 rfl;exact bodyPost_ret (v:=.agg #[.int .i64 R.st,.slice A1 R.fs.length c1',.slice A2 R.body.length c2',.slice A3 R.parts.length c3']) (by simp [results,Tryz.results101,go_sem,c0,c1,c2,c3]) rfl (by have h:=HD.out.1;rw [HR0.out] at h;exact h)
    ·subst hk;have hS9:=(HS.out.2.1.sm H9.out.1 (fun h=>h));have c1:=hS9.at 1 (v:=.slice AT T.length cT) rfl;have hsl:=hS9.lt;obtain⟨t1,t2,t3⟩:=cW hx;have hTb:=fR (ae HS.out.2.2.1 H9.out.1 (fun _ _ h=>h));obtain⟨bb,off,hAe,hbb,r0⟩:=hTb.at t1;subst hAe;obtain⟨_,_,hA1,_,r1⟩:=hTb.at t2;injection hA1 with hA1;injection hA1 with e1 e2;subst e1 e2;obtain⟨_,_,hA1,_,r2⟩:=hTb.at t3;injection hA1 with hA1;injection hA1 with e1 e2;subst e1 e2;rw [show off+(k * 3+1)=off+k * 3+1 by omega] at r1;rw [show off+(k * 3+2)=off+k * 3+2 by omega] at r2;have hkl:k < T.length:=(List.getElem?_eq_some_iff.1 hx).1;have k1:(0:Int)≤(k:Int):=by omega
     have k2:(k:Int) < (T.length:Int):=by omega
     have k3:(k:Int)≤40:=by omega
     have n1:¬(10+(k:Int))=1:=by omega
     have n2:¬(10+(k:Int))=2:=by omega
     have n3:¬(10+(k:Int))=3:=by omega
     have hi:(10+(k:Int))-10=(k:Int):=by omega
     obtain⟨s1,s2,s3⟩:=HS.out.2.2.2.2 x (List.mem_of_getElem? hx);have HE2:=aa (show yO x=R from by
      rw [←HE.out];unfold Dg;rw [if_neg n1,if_neg n2,if_neg n3,show ((10+(k:Int))-10).toNat=k by omega,hx])
     obtain⟨xp,xt,xd⟩:=x;dsimp only at r0 r1 r2 s1 s2 s3 HE2;clear hS9 t1 t2 t3 hTb hx q9 q69 q79;go_wp2_with (refine db rfl 9 34 5 _ rfl _ rfl Tryz.underlying9 Tryz.underlying34 Tryz.underlying5 w9.heap.size (by simp) (by unfold maxLen;omega) ?_;intro cB w6 hOB hsB hzB;refine RowKit.Hid.out ?_);refine aa ?_;simp only [World.size_alloc] at hOB;have hs6:=(H9.out.1.alloc (.cells #[.string xp,.string xt,.string xd] 101)).tt hsB;have hb6:=(H9.out.2.1.alloc (.cells #[.string xp,.string xt,.string xd] 101)).sm hsB (fun h=>h);have he6:=(Bk.new w9 101 #[.string xp,.string xt,.string xd]).sm hsB (fun h=>h);have hw6:w9.heap.size≤w6.heap.size:=Nat.le_trans (by simp) hsB.size;have H6:=aa (ab hs6 (ab hb6 (ab he6 (ab hOB hw6))));clear hs6 hb6 he6 hOB hw6 hsB hzB r0 r1 r2 c1 hsl;go_wp2_with fail;refine(rm w6 w9.heap.size H6.out.2.2.2.2 xt _ (af xd) H6.out.2.2.2.1).mono ?_;rintro e w7 ⟨vF,vB,rfl,hvF,hvB,hs7⟩;obtain⟨A1,c1',rfl,_⟩:=hvF.row;obtain⟨nb,hnb⟩:=ai ((af xd).length);obtain⟨A2,c2',rfl,_⟩:=hvB.row;rw [hnb];have hvB:∃ l,af xd=l∧aH w7 w9.heap.size 5 1 (.slice A2 nb c2') l.length (aL l):=⟨_,rfl,by rw [←hnb];exact hvB⟩;obtain⟨ld,hld,hvB⟩:=hvB;have he7:=H6.out.2.2.1.sm hs7 (fun h=>h);have hb7:=H6.out.2.1.sm hs7 (fun h=>h);have hs7w:=H6.out.1.tt hs7;have e71:=he7.at 1 (v:=.string xt) rfl;have e72:=he7.at 2 (v:=.string xd) rfl;have hel:=he7.lt;have hlt9:b0+1 < w9.heap.size:=H9.out.2.1.lt;have H7:=aa (ab hs7w (ab hb7 (ab he7 (ab hvF (ab hvB (ab hlt9 (ab hnb hld)))))));obtain⟨bp,hbp⟩:=ai (Lib.hasPrefix (af xt) wV);have hHP:∀ W,Calls Tryz.prog 133 #[.string xt,.string ⟨#[115,116,114,101,97,109]⟩] W fun e w'=>e=.returned (.bool bp)∧w'=W:=fun W=>by
      have:=Tryz.strings_HasPrefix xt ⟨#[115,116,114,101,97,109]⟩ W;rw [show Lib.hasPrefix xt.data.toList (⟨#[115,116,114,101,97,109]⟩:ByteArray).data.toList=bp from hbp] at this;exact this
     have HHP:=aa hHP;clear hs7 hvF hvB he7 hb7 hs7w hHP hnb hld;go_wp2_with fail;refine(HHP.out _).mono ?_;rintro e w8 ⟨rfl,hw8⟩;subst hw8;obtain⟨g,hg⟩:=ai w7.heap.size;rw [hg];have HGz:=aa hg;have hbn:Bk (w7.alloc (.cells #[.int .i64 200,.slice A1 1 c1',.slice A2 nb c2',.slice none 0 0] 93)) g 93 #[.int .i64 200,.slice A1 1 c1',.slice A2 nb c2',.slice none 0 0]:=by rw [←hg];exact Bk.new w7 _ _
     obtain⟨w8,hw8⟩:∃ w8,w7.alloc (.cells #[.int .i64 200,.slice A1 1 c1',.slice A2 nb c2',.slice none 0 0] 93)=w8:=⟨_,rfl⟩;have hs8:Sm No w7 w8:=by rw [←hw8];exact(Sm.refl No w7).alloc _
     rw [hw8] at hbn ⊢;have H8:=aa (ab hs8 hbn);clear hw8 hs8 hbn hg
     cases bp with
     |false=>
      have hR:im w8 w9.heap.size (.agg #[.int .i64 200,.slice A1 1 c1',.slice A2 nb c2',.slice none 0 0]) R:=by
       rw [←HE2.out];unfold yO;dsimp only;rw [if_neg (by rw [hbp];decide),H7.out.2.2.2.2.2.2.2];exact⟨_,_,_,rfl,H7.out.2.2.2.1.no H8.out.1,H7.out.2.2.2.2.1.no H8.out.1,aH.nil _ _ _ _⟩
      have hb3:=H7.out.2.1.sm H8.out.1 (fun h=>h);have hs3:=H7.out.1.tt H8.out.1;have hlt:b0+1 < w9.heap.size:=H7.out.2.2.2.2.2.1;have hbO:=H8.out.2;obtain⟨A3,hA3⟩:=ai none;obtain⟨np,hnp⟩:∃ np:Nat,0=np:=⟨_,rfl⟩;obtain⟨c3',hc3⟩:∃ c3':Nat,0=c3':=⟨_,rfl⟩;rw [show (Value.slice none 0 0)=Value.slice A3 np c3' by rw [hA3,←hnp,←hc3]] at hR hbO;clear hbp hA3 hnp hc3;have HD:=aa (bX (by rw [HR0.out];omega) hs3 hb3 hlt hR);have hl:=hb3.lt;have f0:=hb3.fz 0;have f1:=hb3.fz 1;have f2:=hb3.fz 2;have f3:=hb3.fz 3;have d0:=hb3.at 0 rfl;have d1:=hb3.at 1 rfl;have d2:=hb3.at 2 rfl;have d3:=hb3.at 3 rfl;have o0:=hbO.at 0 (v:=.int .i64 200) rfl;have o1:=hbO.at 1 (v:=.slice A1 1 c1') rfl;have o2:=hbO.at 2 (v:=.slice A2 nb c2') rfl;have o3:=hbO.at 3 (v:=.slice A3 np c3') rfl;have hol:=hbO.lt;clear hb3 hs3 hlt hR hbO;go_wp2_with fail;have c0:=HD.out.2.at 0 rfl;have c1:=HD.out.2.at 1 rfl;have c2:=HD.out.2.at 2 rfl;have c3:=HD.out.2.at 3 rfl;exact bodyPost_ret (v:=.agg #[.int .i64 200,.slice A1 1 c1',.slice A2 nb c2',.slice A3 np c3']) (by simp [results,Tryz.results101,go_sem,c0,c1,c2,c3]) rfl (by have h:=HD.out.1;rw [HR0.out] at h;exact h)
     |true=>
      have e81:=(H7.out.2.2.1.sm H8.out.1 (fun h=>h)).at 2 (v:=.string xd) rfl;go_wp2_with fail
      go_loopw [15] (fun i wr=>Gy w7 g (.slice A1 1 c1') (.slice A2 nb c2') xd.size i wr) (fun i _=>xd.size+32-(intOf i).toNat)
      case atStart=>exact⟨0,.slice none 0 0,Nat.zero_le _,rfl,aH.nil _ _ _ _,H8.out.2,H8.out.1⟩
      case round=>
       obtain⟨j,vP,hj,rfl,hO,hbO,hsr⟩:=hrel;obtain⟨A3,c3',rfl,_⟩:=hO.row;obtain⟨lj,hlj⟩:=ai ((cS xd.size).take j);have he8:=H7.out.2.2.1.sm hsr (fun h=>h);have e82:=he8.at 2 (v:=.string xd) rfl;have hel8:=he8.lt;have hgl:=hbO.lt;have hg9:w9.heap.size < g:=by have:=HGz.out;omega
       clear e71 e72 e81 hel he8;by_cases hlt:j < (xd.size+15) / 16
       ·have x0:¬xd.toList=[]:=by
         intro e;have:xd.size=0:=by rw [←ag];unfold af;rw [←ByteArray.toList_eq,e];rfl
         omega
        have x1:xd.toList.isEmpty=false:=by
         cases h:xd.toList with
         |nil=>exact absurd h x0
         |cons=>rfl
        have i0:(0:Int)≤16 * ((j:Int)+1):=by omega
        have i1:(16:Int) * ((j:Int)+1) < (xd.size:Int)+16:=by omega
        have i2:(16:Int) * ((j:Int)+1)≤1000000:=by omega
        have hmn0:min ((16:Int) * ((j:Int)+1)) (xd.size:Int)=((min (16 * (j+1)) xd.size:Nat):Int):=by omega
        obtain⟨mn,hmn⟩:=ai (min (16 * (j+1)) xd.size);rw [hmn] at hmn0;have r3:=hbO.at 3 (v:=.slice A3 j c3') rfl;have HO:=aa (ab hO (ab hbO (ab hsr (ab hmn hlt))));have hjz:j≤100000:=by omega
        clear hO hbO hsr hmn hlj;go_wp2_with (refine qp rfl _ _ 59 3 rfl Tryz.underlying59 _ 1 8 EY rfl (by decide) (by decide) (g+1) j _ _ rfl (HO.out.1.no ((Sm.refl No wr).alloc _)) ⟨wr.heap.size,0,none⟩ 1 1 [.int .i64 mn] rfl rfl (dt (Bk.new wr _ _)) (by simp [Value.oneCell']) (by omega) (by simp;omega) ?_;intro v' w5 hown5 hs5 _;obtain⟨A5,c5,rfl,_⟩:=hown5.row;have hb5:=(HO.out.2.1.alloc (.cells #[.int .i64 mn] 3)).sm hs5 (fun e=>by have:=(HO.out.1.lt g e).1;omega);have d5:=hb5.at 3 rfl;have f5:=hb5.fz 3;have l5:=hb5.lt;have H5:=aa (ab hown5 hs5);refine RowKit.Hid.out ?_);refine aa ?_;clear hown5 hs5 hb5 x0 x1 hmn0 r3 e82;go_wp2_with fail;exact⟨Gy.push HGz.out HO.out.2.2.2.2 HO.out.1 HO.out.2.1 HO.out.2.2.1 (by rw [HO.out.2.2.2.1];exact H5.out.1) H5.out.2 (by rw [show (16:Int) * ((j:Int)+1)+16=16 * (((j+1:Nat):Int)+1) by omega]),by simp [intOf];omega⟩
       ·have hj2:j=(xd.size+15) / 16:=by omega
        have i1:¬(16:Int) * ((j:Int)+1) < (xd.size:Int)+16:=by omega
        have hR:im wr w9.heap.size (.agg #[.int .i64 200,.slice A1 1 c1',.slice A2 nb c2',.slice A3 j c3']) R:=by
         rw [←HE2.out];unfold yO;dsimp only;rw [if_pos hbp,H7.out.2.2.2.2.2.2.2];refine⟨_,_,_,rfl,H7.out.2.2.2.1.no hsr,H7.out.2.2.2.2.1.no hsr,?_⟩;have h:=hO.base (C:=w9.heap.size) (fun b e=>by have:=(hO.lt b e).1;omega);rw [xT _ _ hj2] at h;have e:(cS xd.size).length=j:=by rw [lr];omega
         show aH wr _ _ 1 _ (cS xd.size).length _;rw [e];exact h
        have hb3:=H7.out.2.1.sm hsr (fun h=>h);have hs3:=H7.out.1.tt hsr;have hlt:b0+1 < w9.heap.size:=H7.out.2.2.2.2.2.1;clear hO hsr hlj hj2;have HD:=aa (bX (by rw [HR0.out];omega) hs3 hb3 hlt hR);have hl:=hb3.lt;have f0:=hb3.fz 0;have f1:=hb3.fz 1;have f2:=hb3.fz 2;have f3:=hb3.fz 3;have d0:=hb3.at 0 rfl;have d1:=hb3.at 1 rfl;have d2:=hb3.at 2 rfl;have d3:=hb3.at 3 rfl;have o0:=hbO.at 0 (v:=.int .i64 200) rfl;have o1:=hbO.at 1 (v:=.slice A1 1 c1') rfl;have o2:=hbO.at 2 (v:=.slice A2 nb c2') rfl;have o3:=hbO.at 3 (v:=.slice A3 j c3') rfl;have hol:=hbO.lt;clear hb3 hs3 hlt hR hbO;go_wp2_with fail;have c0:=HD.out.2.at 0 rfl;have c1:=HD.out.2.at 1 rfl;have c2:=HD.out.2.at 2 rfl;have c3:=HD.out.2.at 3 rfl;exact bodyPost_ret (v:=.agg #[.int .i64 200,.slice A1 1 c1',.slice A2 nb c2',.slice A3 j c3']) (by simp [results,Tryz.results101,go_sem,c0,c1,c2,c3]) rfl (by have h:=HD.out.1;rw [HR0.out] at h;exact h)
end Go.Proofs.YtadcjgopaadfjaaGreatDoor
