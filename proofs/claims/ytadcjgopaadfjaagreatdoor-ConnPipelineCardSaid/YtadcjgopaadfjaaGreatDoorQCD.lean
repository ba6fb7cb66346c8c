import Derived.Test.YtadcjgopaadfjaaGreatDoorQCC
import Derived.Test.YtadcjgopaadfjaaGreatDoorQGA
set_option maxHeartbeats 8000000
set_option maxRecDepth 100000
namespace Go.Proofs.YtadcjgopaadfjaaGreatDoor
open Go.RowKit Go.Proofs
theorem JK(args:Array Value)(W:World):Sem.run Tryz.prog (callFunc 49 args) W=.ok (.enter 49 args) W:=by
 simp [callFunc,go_sem,Tryz.func49];rw [if_neg (by decide+kernel),if_neg (fun h=>absurd (congrArg Option.isNone h) (by decide+kernel))]
theorem Jp(args:Array Value)(W:World):Sem.run Tryz.prog (callFunc 48 args) W=.ok (.enter 48 args) W:=by
 simp [callFunc,go_sem,Tryz.func48];rw [if_neg (by decide+kernel),if_neg (fun h=>absurd (congrArg Option.isNone h) (by decide+kernel))]
theorem Iz(args:Array Value)(W:World):Sem.run Tryz.prog (callFunc 41 args) W=.ok (.enter 41 args) W:=by
 simp [callFunc,go_sem,Tryz.func41];rw [if_neg (by decide+kernel),if_neg (fun h=>absurd (congrArg Option.isNone h) (by decide+kernel))]
section
variable {w0 w:World} {D:Nat→Nat→Prop} {c bc:Nat} {z:Zn} {K:Kn} {s:Cn}
theorem Jt(h:aq w0 w D c z K s)(hb:Bk w bc 30 #[.pointer (some ⟨c,0,none⟩)]):Calls Tryz.prog 49 #[.pointer (some ⟨bc,0,none⟩)] w fun e w'=>e=.returned (.tuple #[])∧∃ D',aq w0 w' D' c z K {s with ended:=true}∧aZ D w D' w':=by
 have q0:=hb.at 0 (v:=.pointer (some ⟨c,0,none⟩)) rfl;have ql:=hb.lt;have c26:=h.bk.at 26 (v:=.bool s.ended) rfl;have z26:=h.bk.fz 26;have hcl:=h.bk.lt;have HF:=aa (h.setC (w':=w.setCell ⟨c,26,none⟩ (.bool true)) ((Sm.refl _ w).set1 26 _) {s with ended:=true} ((h.bk.set 26 _).eq rfl) rfl);clear h hb;go_in;go_wp2_with fail
 go_end0
 exact⟨rfl,D,HF.out⟩
theorem Jl(h:aq w0 w D c z K s)(hb:Bk w bc 30 #[.pointer (some ⟨c,0,none⟩)]):Calls Tryz.prog 48 #[.pointer (some ⟨bc,0,none⟩)] w fun e w'=>e=.returned (.tuple #[])∧∃ D',aq w0 w' D' c z K {s with quitting:=true}∧aZ D w D' w':=by
 have q0:=hb.at 0 (v:=.pointer (some ⟨c,0,none⟩)) rfl;have ql:=hb.lt;have c24:=h.bk.at 24 (v:=.bool s.quitting) rfl;have z24:=h.bk.fz 24;have hcl:=h.bk.lt;have HF:=aa (h.setC (w':=w.setCell ⟨c,24,none⟩ (.bool true)) ((Sm.refl _ w).set1 24 _) {s with quitting:=true} ((h.bk.set 24 _).eq rfl) rfl);clear h hb;go_in;go_wp2_with fail
 go_end0
 exact⟨rfl,D,HF.out⟩
theorem Ih(h:aq w0 w D c z K s)(hb:Bk w bc 30 #[.pointer (some ⟨c,0,none⟩)]):Calls Tryz.prog 41 #[.pointer (some ⟨bc,0,none⟩)] w fun e w'=>e=.returned (.tuple #[])∧∃ D',aq w0 w' D' c z K {s with closed:=true}∧aZ D w D' w':=by
 have q0:=hb.at 0 (v:=.pointer (some ⟨c,0,none⟩)) rfl;have ql:=hb.lt;have c27:=h.bk.at 27 (v:=.bool s.closed) rfl;have z27:=h.bk.fz 27;have hcl:=h.bk.lt;have HF:=aa (h.setC (w':=w.setCell ⟨c,27,none⟩ (.bool true)) ((Sm.refl _ w).set1 27 _) {s with closed:=true} ((h.bk.set 27 _).eq rfl) rfl);clear h hb;go_in;go_wp2_with fail
 go_end0
 exact⟨rfl,D,HF.out⟩
theorem IB {now:Int} {F:FuncId} {f:Cn→Cn} {s':Cn} (h:aq w0 w D c z K s) (hK:Ed K) (hF:∀ (args:Array Value) (W:World),Sem.run Tryz.prog (callFunc F args) W=.ok (.enter F args) W)
 (hc:∀ W,Sm No w W→Calls Tryz.prog F #[.pointer (some ⟨bc,0,none⟩)] W fun e w'=>e=.returned (.tuple #[])∧∃ D',aq w0 w' D' c z K (f s)∧aZ D W D' w') (hd:ET K now (fun s=>some (f s)) s=some s'):
 Calls Tryz.prog 37 #[.pointer (some ⟨c,0,none⟩),.int .i64 now,.func (.func F) #[] #[.pointer (some ⟨bc,0,none⟩)]] w fun e w'=>e=.returned (.tuple #[])∧∃ D',aq w0 w' D' c z K s'∧aZ D w D' w':=by
 unfold ET at hd;dsimp only at hd
 cases hw:lp K (f s) with
 |none=>rw [hw] at hd;cases hd
 |some s2=>
  rw [hw] at hd;dsimp only at hd;injection hd with hd;refine(vr w0 w D c z K s (f s) s2 now F #[.pointer (some ⟨bc,0,none⟩)] (fun W D1=>aZ D w D1 W) h hK hF (fun W hW=> ?_) hw).mono ?_
  ·refine(hc W hW).mono ?_;rintro e w' ⟨rfl,D',hI,hG⟩;exact⟨rfl,D',hI,(aZ.no D hW).trans hG⟩
  ·rintro e w' ⟨rfl,D',w1,D1,hI,hE,hG⟩;exact⟨rfl,D',hd ▸ hI,hE.trans hG⟩
end
theorem JF(w0 w:World)(D:Nat→Nat→Prop)(c:Nat)(z:Zn)(K:Kn)(s s':Cn)(now:Int)(h:aq w0 w D c z K s)(hK:Ed K)(hd:JY K s now=some s'):
 Calls Tryz.prog 26 #[.pointer (some ⟨c,0,none⟩),.int .i64 now] w fun e w'=>e=.returned (.tuple #[])∧∃ D',aq w0 w' D' c z K s'∧aZ D w D' w':=by
 unfold JY at hd;have hs1:Sm No w (w.alloc (.cells #[.pointer (some ⟨c,0,none⟩)] 30)):=(Sm.refl No w).alloc _;have hI1:=h.no hs1;have hcl:=h.bk.lt;have c27:=h.bk.at 27 (v:=.bool s.closed) rfl
 cases hc:s.closed with
 |true=>
  rw [hc,if_pos rfl] at hd;injection hd with hd;subst hd;rw [hc] at c27;have HF:=aa (ab hI1 (aZ.no D hs1));clear hI1 hs1 h hc;go_in;go_wp2_with fail
  go_end0
  exact⟨rfl,D,HF.out⟩
 |false=>
  rw [hc,if_neg (by decide)] at hd;rw [hc] at c27;have HD:=aa (IB (f:=fun s=> {s with ended:=true}) hI1 hK JK (fun W hW=>Jt (hI1.no hW) ((Bk.new w _ _).sm hW (fun e=>e))) hd);have HS:=aa hs1;clear hI1 hs1 h hc hd;go_in;go_wp2_with (first|(go_at_call 37;refine HD.out.mono ?_;rintro e w2 ⟨rfl,D2,hI2,hG2⟩;have H2:=aa (ab hI2 hG2);clear hI2 hG2))
  go_end0
  exact⟨rfl,D2,H2.out.1,(aZ.no D HS.out).trans H2.out.2⟩
theorem Jr(w0 w:World)(D:Nat→Nat→Prop)(c:Nat)(z:Zn)(K:Kn)(s s':Cn)(now:Int)(h:aq w0 w D c z K s)(hK:Ed K)(hd:JA K s now=some s'):
 Calls Tryz.prog 24 #[.pointer (some ⟨c,0,none⟩),.int .i64 now] w fun e w'=>e=.returned (.tuple #[])∧∃ D',aq w0 w' D' c z K s'∧aZ D w D' w':=by
 unfold JA at hd;have hs1:Sm No w (w.alloc (.cells #[.pointer (some ⟨c,0,none⟩)] 30)):=(Sm.refl No w).alloc _;have hI1:=h.no hs1;have hcl:=h.bk.lt;have c27:=h.bk.at 27 (v:=.bool s.closed) rfl
 cases hc:s.closed with
 |true=>
  rw [hc,if_pos rfl] at hd;injection hd with hd;subst hd;rw [hc] at c27;have HF:=aa (ab hI1 (aZ.no D hs1));clear hI1 hs1 h hc;go_in;go_wp2_with fail;refine bodyPost_ret (results_none rfl _ _ _) rfl ?_;exact⟨rfl,D,HF.out⟩
 |false=>
  rw [hc,if_neg (by decide)] at hd;rw [hc] at c27;have HD:=aa (IB (f:=fun s=> {s with quitting:=true}) hI1 hK Jp (fun W hW=>Jl (hI1.no hW) ((Bk.new w _ _).sm hW (fun e=>e))) hd);have HS:=aa hs1;clear hI1 hs1 h hc hd;go_in;go_wp2_with (first|(go_at_call 37;refine HD.out.mono ?_;rintro e w2 ⟨rfl,D2,hI2,hG2⟩;have H2:=aa (ab hI2 hG2);clear hI2 hG2))
  go_end0
  exact⟨rfl,D2,H2.out.1,(aZ.no D HS.out).trans H2.out.2⟩
theorem rO(w0 w:World)(D:Nat→Nat→Prop)(c:Nat)(z:Zn)(K:Kn)(s:Cn)(h:aq w0 w D c z K s):Calls Tryz.prog 16 #[.pointer (some ⟨c,0,none⟩)] w fun e w'=>e=.returned (.tuple #[.int .i64 s.phase,.int .i64 s.since])∧Sm No w w':=by
 have hcl:=h.bk.lt;have c20:=h.bk.at 20 (v:=.int .i64 s.phase) rfl;have c21:=h.bk.at 21 (v:=.int .i64 s.since) rfl;obtain⟨a,ha⟩:∃ n,s.phase=n:=⟨_,rfl⟩;obtain⟨b,hb⟩:∃ n,s.since=n:=⟨_,rfl⟩;rw [ha] at c20;rw [hb] at c21;rw [ha,hb];clear h ha hb;go_in;go_wp2_with fail;go_quiet (fail);go_wp2_with fail;go_ret2;exact⟨rfl,(Sm.refl No w).drewN _⟩
theorem Jm(w0 w:World)(D:Nat→Nat→Prop)(c:Nat)(z:Zn)(K:Kn)(s:Cn)(h:aq w0 w D c z K s):Calls Tryz.prog 25 #[.pointer (some ⟨c,0,none⟩)] w fun e w'=>e=.returned (.bool (decide (s.phase=4)))∧Sm No w w':=by
 have hcl:=h.bk.lt;have c20:=h.bk.at 20 (v:=.int .i64 s.phase) rfl;obtain⟨a,ha⟩:∃ n,s.phase=n:=⟨_,rfl⟩;rw [ha] at c20;rw [ha];have HB:=aa (show (a==4)=decide (a=4) from by by_cases e:a=4<;>simp [e]);clear h ha;go_in;go_wp2_with fail;go_ret;exact⟨by rw [←HB.out];rfl,Sm.refl _ _⟩
theorem Hz(w0 w:World)(D:Nat→Nat→Prop)(c:Nat)(z:Zn)(K:Kn)(s:Cn)(h:aq w0 w D c z K s):Calls Tryz.prog 21 #[.pointer (some ⟨c,0,none⟩)] w fun e w'=>e=.returned (.tuple #[.int .i64 (s.taken:Int),.int .i64 (s.laid:Int),.int .i64 (s.whole:Int)])∧Sm No w w':=by
 have hcl:=h.bk.lt;have c30:=h.bk.at 30 (v:=.int .i64 (s.taken:Int)) rfl;have c31:=h.bk.at 31 (v:=.int .i64 (s.laid:Int)) rfl;have c32:=h.bk.at 32 (v:=.int .i64 (s.whole:Int)) rfl;clear h;go_in;go_wp2_with fail;go_quiet (fail);go_wp2_with fail;exact bodyPost_ret (v:=.tuple #[.int .i64 (s.taken:Int),.int .i64 (s.laid:Int),.int .i64 (s.whole:Int)]) (by simp [results,Tryz.results21,go_sem]) rfl ⟨rfl,(Sm.refl No w).drewN _⟩
theorem Im(w0 w:World)(D:Nat→Nat→Prop)(c:Nat)(z:Zn)(K:Kn)(s:Cn)(h:aq w0 w D c z K s):Calls Tryz.prog 27 #[.pointer (some ⟨c,0,none⟩)] w fun e w'=>e=.returned (.int .i64 (Iv K s))∧Sm No w w':=by
 have hcl:=h.bk.lt;have c18:=h.bk.at 18 (v:=.pointer (some ⟨z.gr,0,none⟩)) rfl;have c25:=h.bk.at 25 (v:=.bool s.ending) rfl;have c26:=h.bk.at 26 (v:=.bool s.ended) rfl;have c27:=h.bk.at 27 (v:=.bool s.closed) rfl;have HR:=aa (show Calls Tryz.prog 47 #[.pointer (some ⟨z.gr,0,none⟩)] w fun e w'=>e=.returned (.int .i64 ((K.n:Int)-(s.r.length:Int)))∧Sm No w w' from by
  obtain⟨gb,f,M,hV, -, -,hn⟩:=h.rg;exact uN w z.gr gb K.n f M s.r hV hn)
 have HW:=aa (show Iv K s=if s.closed=true then 0 else if (s.ending||s.ended)=true then 256 else (K.n:Int)-s.r.length from rfl);obtain⟨a,ha⟩:∃ n,s.closed=n:=⟨_,rfl⟩;obtain⟨b,hb⟩:∃ n,s.ending=n:=⟨_,rfl⟩;obtain⟨d,hd⟩:∃ n,s.ended=n:=⟨_,rfl⟩;obtain⟨x,hx⟩:∃ n,(K.n:Int)-(s.r.length:Int)=n:=⟨_,rfl⟩;obtain⟨y,hy⟩:∃ n,Iv K s=n:=⟨_,rfl⟩;rw [ha] at c27;rw [hb] at c25;rw [hd] at c26;rw [hx] at HR;rw [ha,hb,hd,hx,hy] at HW;rw [hy];clear h ha hb hd hx hy
 cases a with
 |true=>
  have HE:=aa (show y=0 from by rw [HW.out];simp);go_in;go_wp2_with fail;go_ret;exact⟨by rw [HE.out];rfl,Sm.refl _ _⟩
 |false=>
  cases b with
  |true=>
   have HE:=aa (show y=256 from by rw [HW.out];simp);go_in;go_wp2_with fail;go_ret;exact⟨by rw [HE.out];rfl,Sm.refl _ _⟩
  |false=>
   cases d with
   |true=>
    have HE:=aa (show y=256 from by rw [HW.out];simp);go_in;go_wp2_with fail;go_ret;exact⟨by rw [HE.out];rfl,Sm.refl _ _⟩
   |false=>
    have HE:=aa (show y=x from by rw [HW.out];simp);go_in;go_wp2_with (first|(go_at_call 47;refine HR.out.mono ?_;rintro e w1 ⟨rfl,hs1⟩;have H1:=aa hs1;clear hs1));go_ret;exact⟨by rw [HE.out];rfl,H1.out⟩
theorem Ht(args:Array Value)(W:World):Sem.run Tryz.prog (callFunc 50 args) W=.ok (.enter 50 args) W:=by
 simp [callFunc,go_sem,Tryz.func50];rw [if_neg (by decide+kernel),if_neg (fun h=>absurd (congrArg Option.isNone h) (by decide+kernel))]
theorem Hm(w0 w:World)(D:Nat→Nat→Prop)(c bc bk:Nat)(z:Zn)(K:Kn)(s:Cn)(code:Int)(h:aq w0 w D c z K s)(hb:Bk w bc 30 #[.pointer (some ⟨c,0,none⟩)])(hk:Bk w bk 3 #[.int .i64 code])(hc:200≤code∧code≤599)(hr:zR s (BW code).length):
 Calls Tryz.prog 50 #[.pointer (some ⟨bc,0,none⟩),.pointer (some ⟨bk,0,none⟩)] w fun e w'=>e=.returned (.tuple #[])∧∃ D',aq w0 w' D' c z K (s.lay (BW code) true)∧aZ D w D' w':=by
 have HCn:=aa (show Calls Tryz.prog 52 #[.int .i64 code,.slice none 0 0] w.drew (xn w.drew (aD code [])) from eF w.drew (h.reg.g.no (Sm.refl No w).drew) code (by omega) (by omega) none 0 [] (fun k hk=>absurd hk (Nat.not_lt_zero _)) (fun _=>⟨rfl,rfl⟩) (by decide));have HLy:=aa (fun (W:World) (hs:Sm No w W) (B:Nat) (v:Value) (hv:im W B v (aD code []))=>nx w0 W D c z K s (h.no hs) B v _ hv (dI hc (by decide) (fun x hx=>by cases hx)) (ow code []) false true 1 (by decide) (BW code) rfl (EA (He hc)) hr);have HC:=aa (fun (W:World) (hs:Sm No w W)=>show W.cell? ⟨bc,0,none⟩=some (.pointer (some ⟨c,0,none⟩))∧W.cell? ⟨bk,0,none⟩=some (.int .i64 code) from⟨(hb.sm hs (fun e=>e)).at 0 rfl,(hk.sm hs (fun e=>e)).at 0 rfl⟩);have k0:=HC.out w (Sm.refl _ _);have k0d:=HC.out w.drew (Sm.refl _ _).drew;have l1:=hb.lt;have l2:=hk.lt;clear h hb hk hr;go_in;go_wp2_with fail
 go_region_law
  (first
   |(go_simp;go_at_call 52;refine HCn.out.mono ?_;rintro e w3 ⟨v3,rfl,hv3,hs3⟩;have hw3:=(Sm.refl No w).drew.tt hs3;obtain⟨q0,q1⟩:=HC.out w3 hw3;have l3:=Nat.lt_of_lt_of_le l1 hw3.size;have HL3:=aa (HLy.out w3 hw3 _ _ hv3);have H3:=aa hw3;clear hv3 hs3 hw3)
   |(go_simp;go_at_call 51;refine HL3.out.mono ?_;rintro e w4 ⟨rfl,hI4⟩;have H4:=aa hI4;clear hI4)
   |fail)
 all_goals
  go_wp2_with fail
  go_end0
  obtain⟨D',hI,hG⟩:=H4.out;exact⟨rfl,D',hI,(aZ.no D H3.out).trans hG⟩
theorem Hv(w0 w:World)(D:Nat→Nat→Prop)(c:Nat)(z:Zn)(K:Kn)(s s':Cn)(code now:Int)(h:aq w0 w D c z K s)(hK:Ed K)(hc:200≤code∧code≤599)(he:s.ending=false)(hcl0:s.closed=false)(hr:zR s (BW code).length)(hd:ET K now (fun s=>some (s.lay (BW code) true)) s=some s'):
 Calls Tryz.prog 29 #[.pointer (some ⟨c,0,none⟩),.int .i64 code,.int .i64 now] w fun e w'=>e=.returned (.tuple #[])∧∃ D',aq w0 w' D' c z K s'∧aZ D w D' w':=by
 have hs1:Sm No w ((w.alloc (.cells #[.pointer (some ⟨c,0,none⟩)] 30)).alloc (.cells #[.int .i64 code] 3)):=((Sm.refl No w).alloc _).alloc _;have hI1:=h.no hs1;have hcl:=h.bk.lt;have c25:=h.bk.at 25 (v:=.bool s.ending) rfl;have c27:=h.bk.at 27 (v:=.bool s.closed) rfl;rw [he] at c25;rw [hcl0] at c27;have hbc:Bk ((w.alloc (.cells #[.pointer (some ⟨c,0,none⟩)] 30)).alloc (.cells #[.int .i64 code] 3)) w.heap.size 30 #[.pointer (some ⟨c,0,none⟩)]:=(Bk.new w _ _).alloc _;have hbk:Bk ((w.alloc (.cells #[.pointer (some ⟨c,0,none⟩)] 30)).alloc (.cells #[.int .i64 code] 3)) (w.heap.size+1) 3 #[.int .i64 code]:=Bk.newAt (w.alloc _) _ _ (by simp);unfold ET at hd;dsimp only at hd
 cases hw:lp K (s.lay (BW code) true) with
 |none=>rw [hw] at hd;cases hd
 |some s2=>
  rw [hw] at hd;dsimp only at hd;injection hd with hd;have HD:=aa (vr w0 _ D c z K s (s.lay (BW code) true) s2 now 50 #[.pointer (some ⟨w.heap.size,0,none⟩),.pointer (some ⟨w.heap.size+1,0,none⟩)] (fun W D1=>aZ D ((w.alloc (.cells #[.pointer (some ⟨c,0,none⟩)] 30)).alloc (.cells #[.int .i64 code] 3)) D1 W) hI1 hK Ht (fun W hW=>by
   refine(Hm w0 W D c _ _ z K s code (hI1.no hW) (hbc.sm hW (fun e=>e)) (hbk.sm hW (fun e=>e)) hc hr).mono ?_;rintro e w' ⟨rfl,D',hI,hG⟩;exact⟨rfl,D',hI,(aZ.no D hW).trans hG⟩) hw)
  have HS:=aa (ab hs1 hd);have k1:(200:Int)≤code:=hc.1;have k2:code≤599:=hc.2;have d1:decide ((200:Int)≤code)=true:=decide_eq_true k1;have d2:decide (code≤(599:Int))=true:=decide_eq_true k2;clear hI1 hs1 h hbc hbk hd hw hr;go_in;go_wp2_with (first|(go_at_call 37;refine HD.out.mono ?_;rintro e w3 ⟨rfl,D3,w2,D1,hI3,hE,hG3⟩;have H3:=aa (ab hI3 (hE.trans hG3));clear hI3 hE hG3))
  go_end0
  exact⟨rfl,D3,by rw [←HS.out.2];exact H3.out.1,(aZ.no D HS.out.1).trans H3.out.2⟩
def CE(w:World)(e:Ending)(w':World):Prop:=∃ g,e=.returned (.pointer (some ⟨g,0,none⟩))∧eU w' (fun x=>w.heap.size≤x∧x < w'.heap.size) g [] [] 0∧Sm No w w'
theorem oF(w:World):Calls Tryz.prog 54 #[] w (CE w):=by
 go_in;go_wp2_with fail;go_ret;refine⟨w.heap.size,rfl,⟨.slice none 0 0,.slice none 0 0,⟨Bk.new w _ _,⟨rfl,Or.inl ⟨rfl,rfl⟩⟩,⟨rfl,Or.inl ⟨rfl,rfl⟩⟩⟩,⟨Nat.le_refl _,by simp⟩,(fun x e=>by cases e),(fun x e=>by cases e)⟩,(Sm.refl No w).alloc _⟩
theorem DH {w0 w wE:World} {P3 P4:Nat→Prop} {gs gr gq gp gm c a2 b2 a5 b5:Nat} {K:Kn} {now:Int} (g1:G1 w0) (pos:0 < w0.heap.size) (hw0:Sm No w0 w) (hw:Sm No w wE)
 (hr:cA w P3 gr K.n []) (hs:ft w P4 gs K.T) (h34:∀ x,P3 x→¬P4 x) (h3:∀ x,P3 x→w0.heap.size≤x∧x < w.heap.size) (h4:∀ x,P4 x→w0.heap.size≤x∧x < w.heap.size)
 (hq:eU wE (fun x=>a2≤x∧x < b2) gq [] [] 0) (hp:bZ wE (fun x=>a5≤x∧x < b5) gp .idle) (hm:dT wE gm 0 (fun _=>false)) (bk:Bk wE c 46 (oY K ⟨gq,gs,gr,gp,gm⟩ (Cn.new now)))
 (k1:w.heap.size≤a2∧w.heap.size≤a5∧w.heap.size≤gm∧w.heap.size≤c) (k2:b2≤c∧b5≤c∧gm < c) (k3:b2≤a5∨b5≤a2) (k4:gm < a2∨b2≤gm) (k5:gm < a5∨b5≤gm):
 ∃ D,aq w0 wE D c ⟨gq,gs,gr,gp,gm⟩ K (Cn.new now)∧∀ x,ck D x→P3 x∨P4 x∨w.heap.size≤x:=by
 have hc:=bk.lt;have e1:=hw0.size;refine⟨fun k x=>(k=1∧x=c)∨(k=2∧a2≤x∧x < b2)∨(k=3∧P3 x)∨(k=4∧P4 x)∨(k=5∧a5≤x∧x < b5)∨(k=6∧x=gm),⟨⟨?_,?_,?_,g1,hw0.tt hw,pos⟩,bk,Or.inl ⟨rfl,rfl⟩,?_,?_,?_,?_,?_,Or.inr (Or.inr (Or.inr (Or.inr (Or.inr ⟨rfl,rfl⟩)))),trivial,trivial⟩,?_⟩
 ·rintro x j k (⟨rfl,h⟩|⟨rfl,h⟩|⟨rfl,h⟩|⟨rfl,h⟩|⟨rfl,h⟩|⟨rfl,h⟩) (⟨rfl,h'⟩|⟨rfl,h'⟩|⟨rfl,h'⟩|⟨rfl,h'⟩|⟨rfl,h'⟩|⟨rfl,h'⟩)<;>first
   |rfl
   |omega
   |exact absurd h' (h34 x h)
   |exact absurd h (h34 x h')
   |(have:=(h3 x h).2;omega)
   |(have:=(h3 x h').2;omega)
   |(have:=(h4 x h).2;omega)
   |(have:=(h4 x h').2;omega)
 ·rintro k x (⟨rfl,h⟩|⟨rfl,h⟩|⟨rfl,h⟩|⟨rfl,h⟩|⟨rfl,h⟩|⟨rfl,h⟩)
  ·omega
  ·omega
  ·have:=(h3 x h).2;omega
  ·have:=(h4 x h).2;omega
  ·omega
  ·omega
 ·rintro k x (⟨rfl,h⟩|⟨rfl,h⟩|⟨rfl,h⟩|⟨rfl,h⟩|⟨rfl,h⟩|⟨rfl,h⟩)
  ·omega
  ·omega
  ·exact(h3 x h).1
  ·exact(h4 x h).1
  ·omega
  ·omega
 ·rw [show (fun x=>(2=1∧x=c)∨(2=2∧a2≤x∧x < b2)∨(2=3∧P3 x)∨(2=4∧P4 x)∨(2=5∧a5≤x∧x < b5)∨(2=6∧x=gm))=(fun x=>a2≤x∧x < b2) from by funext x;simp];exact hq
 ·rw [show (fun x=>(3=1∧x=c)∨(3=2∧a2≤x∧x < b2)∨(3=3∧P3 x)∨(3=4∧P4 x)∨(3=5∧a5≤x∧x < b5)∨(3=6∧x=gm))=P3 from by funext x;simp];exact hr.no hw
 ·rw [show (fun x=>(4=1∧x=c)∨(4=2∧a2≤x∧x < b2)∨(4=3∧P3 x)∨(4=4∧P4 x)∨(4=5∧a5≤x∧x < b5)∨(4=6∧x=gm))=P4 from by funext x;simp];exact hs.no hw
 ·rw [show (fun x=>(5=1∧x=c)∨(5=2∧a2≤x∧x < b2)∨(5=3∧P3 x)∨(5=4∧P4 x)∨(5=5∧a5≤x∧x < b5)∨(5=6∧x=gm))=(fun x=>a5≤x∧x < b5) from by funext x;simp];exact hp
 ·exact hm
 ·rintro x ⟨k,⟨rfl,h⟩|⟨rfl,h⟩|⟨rfl,h⟩|⟨rfl,h⟩|⟨rfl,h⟩|⟨rfl,h⟩⟩
  ·right;right;omega
  ·right;right;omega
  ·exact Or.inl h
  ·exact Or.inr (Or.inl h)
  ·right;right;omega
  ·right;right;omega
theorem tk{P:Program}{W:World}{ty:TypeId}{o:Oper}{a:Act}{g:Nat}{cs:Array Value}{fs:Array Field}(hi:(P.info? ty).map (·.size)=some cs.size)(hu:P.underlying ty=some (.struct fs)){t:TypeId}(hb:Bk W g t cs){x:Operand}(ho:o.op=.load ty x)(hx:a.eval x=.pointer (some ⟨g,0,none⟩)):
 Sem.run P (execOp a.eval o) W=.ok (.value (.agg cs)) W:=by
 unfold execOp;simp only [ho,hx,Instr.loadAt,Instr.sureAddr,Sem.run_bind,Sem.run_pure,Result.andThen_ok,run_loadVar_row W g t ty cs (0,0) (.struct fs) hb hu rfl hi]
def zh(w0 w:World)(P3 P4:Nat→Prop)(K:Kn)(now:Int)(e:Ending)(w':World):Prop:=
 ∃ c z D,e=.returned (.tuple #[.pointer (some ⟨c,0,none⟩),.int .i64 0])∧aq w0 w' D c z K (Cn.new now)∧(∀ x,ck D x→P3 x∨P4 x∨w.heap.size≤x)∧Sm No w w'
theorem yK(w0 w:World)(P3 P4:Nat→Prop)(gs gr:Nat)(K:Kn)(now:Int)(g1:G1 w0)(pos:0 < w0.heap.size)(hw0:Sm No w0 w)(hC:K.C.ok=true)(hr:cA w P3 gr K.n [])(hs:ft w P4 gs K.T)(h34:∀ x,P3 x→¬P4 x)(h3:∀ x,P3 x→w0.heap.size≤x∧x < w.heap.size)(h4:∀ x,P4 x→w0.heap.size≤x∧x < w.heap.size)(hn:0≤now):
 Calls Tryz.prog 30 #[.agg K.C.vals,.pointer (some ⟨gs,0,none⟩),.pointer (some ⟨gr,0,none⟩),.int .i64 now] w (zh w0 w P3 P4 K now):=by
 have HI:=aa (fun x1=> @DH w0 w x1 P3 P4 gs gr);have HB:=aa (ab g1 (ab pos (ab hw0 (ab hr (ab hs (ab h34 (ab h3 h4)))))));have HG:=aa (fun W=>Bb K.C W hC);have hn1:¬now < 0:=by omega
 clear g1 pos hw0 hr hs h34 h3 h4 hC hn;have hmm:= @run_makeMap Tryz.prog;obtain⟨C,T,n⟩:=K;dsimp only at HG ⊢;go_in;go_wp2_with (refine bj rfl 28 _ rfl Tryz.underlying28 16 eN _ rfl _ (Bk.new _ _ _) rfl ?_);refine(HG.out _).mono ?_;rintro e w1 ⟨g,m, -, -,rfl, -,hs1⟩;have hb1:=(Bk.new w 28 C.vals).sm hs1 (fun h=>h.elim);have hs1:=((Sm.refl No w).alloc _).tt hs1;have HS1:=aa (ab hb1 hs1);have hbd:=hb1.sm (Sm.refl No w1).drew (fun e=>e);clear hb1 hs1;go_wp2_with fail;refine wp_region_noPanic ?_;refine wp_region_held_drew (S:=fun W=>Bk W w.heap.size 28 C.vals) (by kernel_rfl) hbd (fun hHeld=> ?_);refine' aj (i:=1) (oi:=_) (d:=32) (v:=.agg #[.int .i64 C.maxConns,.int .i64 C.maxPerPeer,.int .i64 C.pipeline,.int .i64 C.buffers,.int .i64 C.idle,.int .i64 C.head,.int .i64 C.body,.int .i64 C.write,.int .i64 C.linger,.int .i64 C.pace,.int .i64 C.paceBytes,.int .i64 C.base,.int .i64 C.cap,.bool C.refuse,.bool C.evict,.slice C.ta C.tl C.tc]) rfl rfl (by kernel_rfl) (by kernel_rfl) (by kernel_rfl) (fun _ _ _ h=>h) (Or.inl ⟨by kernel_rfl,?hyx1⟩) (by assumption) ?rtx1
 case hyx1=>(intro W hSw;exact tk eN Tryz.underlying28 hSw rfl rfl)
 try simp only [Act.put,List.setIfInBounds_toArray,List.set_cons_zero,List.set_cons_succ]
 refine' aj (i:=2) (oi:=_) (d:=33) (v:=_) rfl rfl (by kernel_rfl) (by kernel_rfl) (by kernel_rfl) (fun _ _ _ h=>h) (Or.inl ⟨by kernel_rfl,?hyx2⟩) (by assumption) ?rtx2
 case hyx2=>(intro w hSw;clear hSw;go_simp;try(with_reducible rfl))
 try simp only [Act.put,List.setIfInBounds_toArray,List.set_cons_zero,List.set_cons_succ]
 refine' aj (i:=3) (oi:=_) (d:=34) (v:=_) rfl rfl (by kernel_rfl) (by kernel_rfl) (by kernel_rfl) (fun _ _ _ h=>h) (Or.inl ⟨by kernel_rfl,?hyx3⟩) (by assumption) ?rtx3
 case hyx3=>(intro w hSw;clear hSw;go_simp;try(with_reducible rfl))
 try simp only [Act.put,List.setIfInBounds_toArray,List.set_cons_zero,List.set_cons_succ]
 refine' aj (i:=5) (oi:=_) (d:=36) (v:=_) rfl rfl (by kernel_rfl) (by kernel_rfl) (by kernel_rfl) (fun _ _ _ h=>h) (Or.inl ⟨by kernel_rfl,?hyx4⟩) (by assumption) ?rtx4
 case hyx4=>(intro w hSw;clear hSw;go_simp;try(with_reducible rfl))
 try simp only [Act.put,List.setIfInBounds_toArray,List.set_cons_zero,List.set_cons_succ]
 refine' aj (i:=6) (oi:=_) (d:=37) (v:=_) rfl rfl (by kernel_rfl) (by kernel_rfl) (by kernel_rfl) (fun _ _ _ h=>h) (Or.inl ⟨by kernel_rfl,?hyx5⟩) (by assumption) ?rtx5
 case hyx5=>(intro w hSw;clear hSw;go_simp;try(with_reducible rfl))
 try simp only [Act.put,List.setIfInBounds_toArray,List.set_cons_zero,List.set_cons_succ]
 refine wpAnyH_ready (rs:=[0,7]) (by kernel_rfl) (by simp) ?_;refine AllReadyH.cons (o:=_) rfl (fun K hK=> ?_) ?_
 ·skip
  rw [if_pos (by kernel_rfl)];go_simp;refine(oF _).mono ?_;rintro e wq ⟨gq,rfl,hq,hsq⟩;have Hq:=aa (ab hq hsq);have hH2:=hHeld.sm hsq (fun e=>e);clear hq hsq hHeld;go_wp2_with fail;refine hK.out _ _ hH2 (fun hHeld=> ?_);clear hK hH2;refine wpAnyH_ready (rs:=[4,7]) (by kernel_rfl) (by simp) ?_;refine AllReadyH.cons (o:=_) rfl (fun K hK=> ?_) ?_
  ·skip
   rw [if_pos (by kernel_rfl)];go_simp;refine(iP _).mono ?_;rintro e wp ⟨gp,rfl,hp,hsp⟩;have Hp:=aa (ab hp hsp);have hH2:=hHeld.sm hsp (fun e=>e);clear hp hsp hHeld;go_wp2_with fail;refine hK.out _ _ hH2 (fun hHeld=> ?_);clear hK hH2;refine wpAnyH_ready (rs:=[7]) (by kernel_rfl) (by simp) ?_;refine AllReadyH.cons (o:=_) rfl (fun K hK=> ?_) AllReadyH.nil;go_simp;refine hK.out _ _ (hHeld.sm ((Sm.refl No _).alloc _) (fun e=>e)) (fun hHeld=> ?_);clear hK;refine' aj (i:=8) (oi:=_) (d:=39) (v:=_) rfl rfl (by kernel_rfl) (by kernel_rfl) (by kernel_rfl) (fun _ _ _ h=>h) (Or.inl ⟨by kernel_rfl,?hyx6⟩) (by assumption) ?rtx6
   case hyx6=>(intro w hSw;clear hSw;go_simp;try(with_reducible rfl))
   try simp only [Act.put,List.setIfInBounds_toArray,List.set_cons_zero,List.set_cons_succ]
   refine wpAnyH_ready (rs:=[9]) (by kernel_rfl) (by simp) ?_;refine AllReadyH.cons (o:=_) rfl (fun K hK=> ?_) AllReadyH.nil;go_simp;refine hK.out _ _ (hHeld.sm ((Sm.refl No _).alloc _) (fun e=>e)) (fun hHeld=> ?_);clear hK;refine' aj (i:=10) (oi:=_) (d:=8) (v:=_) rfl rfl (by kernel_rfl) (by kernel_rfl) (by kernel_rfl) (fun _ _ _ h=>h) (Or.inl ⟨by kernel_rfl,?hyx7⟩) (by assumption) ?rtx7
   case hyx7=>(intro w hSw;clear hSw;go_simp;try(with_reducible rfl))
   try simp only [Act.put,List.setIfInBounds_toArray,List.set_cons_zero,List.set_cons_succ]
   refine' aj (i:=11) (oi:=_) (d:=9) (v:=_) rfl rfl (by kernel_rfl) (by kernel_rfl) (by kernel_rfl) (fun _ _ _ h=>h) (Or.inl ⟨by kernel_rfl,?hyx8⟩) (by assumption) ?rtx8
   case hyx8=>(intro w hSw;clear hSw;go_simp;try(with_reducible rfl))
   try simp only [Act.put,List.setIfInBounds_toArray,List.set_cons_zero,List.set_cons_succ]
   refine wpAnyH_done (by kernel_rfl) ?_ _;refine NoPanic.normal ?_;go_wp2_with fail;go_ret2;have s0:Sm No w w1.drew:=HS1.out.2.drew;have s1:Sm No w1.drew wq:=Hq.out.2;have s2:Sm No wq wp:=Hp.out.2;have s3:Sm No wp (wp.alloc (.map #[] 0)):=(Sm.refl No wp).alloc _;have t4:Sm No (wp.alloc (.map #[] 0)) ((wp.alloc (.map #[] 0)).alloc (.cells (oY ⟨C,T,n⟩ ⟨gq,gs,gr,gp,(wp).heap.size⟩ (Cn.new now)) 46)):=(Sm.refl No (wp.alloc (.map #[] 0))).alloc _;have t3:Sm No wp _:=s3.tt t4;have t2:Sm No wq _:=s2.tt t3;have t1:Sm No w1.drew _:=s1.tt t2;have t0:Sm No w _:=s0.tt t1;have z0:=s0.size;have z1:=s1.size;have z2:=s2.size;have z3:=s3.size;have zm:((wp.alloc (.map #[] 0))).heap.size=(wp).heap.size+1:=by simp
   have zd:w1.drew.heap.size=w1.heap.size:=rfl;obtain⟨g1,pos,hw0,hr,hs,h34,h3,h4⟩:=HB.out;obtain⟨D,hI,hD⟩:=HI.out _ g1 pos hw0 t0 hr hs h34 h3 h4 (Hq.out.1.no t2) (Hp.out.1.no t3) ((dT.made (wp)).no t4) (Bk.newAt (g:=wp.heap.size+1) (wp.alloc (.map #[] 0)) _ _ (by simp)) ⟨by omega,by omega,by omega,by omega⟩ ⟨by omega,by omega,by omega⟩ (by omega) (by omega) (by omega);exact⟨_,_,D,rfl,hI,hD,t0⟩
  ·refine AllReadyH.cons (o:=_) rfl (fun K hK=> ?_) AllReadyH.nil;go_simp;refine hK.out _ _ (hHeld.sm ((Sm.refl No _).alloc _) (fun e=>e)) (fun hHeld=> ?_);clear hK;refine wpAnyH_ready (rs:=[4]) (by kernel_rfl) (by simp) ?_;refine AllReadyH.cons (o:=_) rfl (fun K hK=> ?_) AllReadyH.nil;rw [if_pos (by kernel_rfl)];go_simp;refine(iP _).mono ?_;rintro e wp ⟨gp,rfl,hp,hsp⟩;have Hp:=aa (ab hp hsp);have hH2:=hHeld.sm hsp (fun e=>e);clear hp hsp hHeld;go_wp2_with fail;refine hK.out _ _ hH2 (fun hHeld=> ?_);clear hK hH2;refine' aj (i:=8) (oi:=_) (d:=39) (v:=_) rfl rfl (by kernel_rfl) (by kernel_rfl) (by kernel_rfl) (fun _ _ _ h=>h) (Or.inl ⟨by kernel_rfl,?hyx9⟩) (by assumption) ?rtx9
   case hyx9=>(intro w hSw;clear hSw;go_simp;try(with_reducible rfl))
   try simp only [Act.put,List.setIfInBounds_toArray,List.set_cons_zero,List.set_cons_succ]
   refine wpAnyH_ready (rs:=[9]) (by kernel_rfl) (by simp) ?_;refine AllReadyH.cons (o:=_) rfl (fun K hK=> ?_) AllReadyH.nil;go_simp;refine hK.out _ _ (hHeld.sm ((Sm.refl No _).alloc _) (fun e=>e)) (fun hHeld=> ?_);clear hK;refine' aj (i:=10) (oi:=_) (d:=8) (v:=_) rfl rfl (by kernel_rfl) (by kernel_rfl) (by kernel_rfl) (fun _ _ _ h=>h) (Or.inl ⟨by kernel_rfl,?hyx10⟩) (by assumption) ?rtx10
   case hyx10=>(intro w hSw;clear hSw;go_simp;try(with_reducible rfl))
   try simp only [Act.put,List.setIfInBounds_toArray,List.set_cons_zero,List.set_cons_succ]
   refine' aj (i:=11) (oi:=_) (d:=9) (v:=_) rfl rfl (by kernel_rfl) (by kernel_rfl) (by kernel_rfl) (fun _ _ _ h=>h) (Or.inl ⟨by kernel_rfl,?hyx11⟩) (by assumption) ?rtx11
   case hyx11=>(intro w hSw;clear hSw;go_simp;try(with_reducible rfl))
   try simp only [Act.put,List.setIfInBounds_toArray,List.set_cons_zero,List.set_cons_succ]
   refine wpAnyH_done (by kernel_rfl) ?_ _;refine NoPanic.normal ?_;go_wp2_with fail;go_ret2;have s0:Sm No w w1.drew:=HS1.out.2.drew;have s1:Sm No w1.drew wq:=Hq.out.2;have s2:Sm No wq (wq.alloc (.map #[] 0)):=(Sm.refl No wq).alloc _;have s3:Sm No (wq.alloc (.map #[] 0)) wp:=Hp.out.2;have t4:Sm No wp (wp.alloc (.cells (oY ⟨C,T,n⟩ ⟨gq,gs,gr,gp,(wq).heap.size⟩ (Cn.new now)) 46)):=(Sm.refl No wp).alloc _;have t3:Sm No (wq.alloc (.map #[] 0)) _:=s3.tt t4;have t2:Sm No wq _:=s2.tt t3;have t1:Sm No w1.drew _:=s1.tt t2;have t0:Sm No w _:=s0.tt t1;have z0:=s0.size;have z1:=s1.size;have z2:=s2.size;have z3:=s3.size;have zm:((wq.alloc (.map #[] 0))).heap.size=(wq).heap.size+1:=by simp
   have zd:w1.drew.heap.size=w1.heap.size:=rfl;obtain⟨g1,pos,hw0,hr,hs,h34,h3,h4⟩:=HB.out;obtain⟨D,hI,hD⟩:=HI.out _ g1 pos hw0 t0 hr hs h34 h3 h4 (Hq.out.1.no t2) (Hp.out.1.no t4) ((dT.made (wq)).no t3) (Bk.newAt (g:=wp.heap.size) wp _ _ (by simp)) ⟨by omega,by omega,by omega,by omega⟩ ⟨by omega,by omega,by omega⟩ (by omega) (by omega) (by omega);exact⟨_,_,D,rfl,hI,hD,t0⟩
 ·refine AllReadyH.cons (o:=_) rfl (fun K hK=> ?_) AllReadyH.nil;go_simp;refine hK.out _ _ (hHeld.sm ((Sm.refl No _).alloc _) (fun e=>e)) (fun hHeld=> ?_);clear hK;refine wpAnyH_ready (rs:=[0]) (by kernel_rfl) (by simp) ?_;refine AllReadyH.cons (o:=_) rfl (fun K hK=> ?_) AllReadyH.nil;rw [if_pos (by kernel_rfl)];go_simp;refine(oF _).mono ?_;rintro e wq ⟨gq,rfl,hq,hsq⟩;have Hq:=aa (ab hq hsq);have hH2:=hHeld.sm hsq (fun e=>e);clear hq hsq hHeld;go_wp2_with fail;refine hK.out _ _ hH2 (fun hHeld=> ?_);clear hK hH2;refine wpAnyH_ready (rs:=[4]) (by kernel_rfl) (by simp) ?_;refine AllReadyH.cons (o:=_) rfl (fun K hK=> ?_) AllReadyH.nil;rw [if_pos (by kernel_rfl)];go_simp;refine(iP _).mono ?_;rintro e wp ⟨gp,rfl,hp,hsp⟩;have Hp:=aa (ab hp hsp);have hH2:=hHeld.sm hsp (fun e=>e);clear hp hsp hHeld;go_wp2_with fail;refine hK.out _ _ hH2 (fun hHeld=> ?_);clear hK hH2;refine' aj (i:=8) (oi:=_) (d:=39) (v:=_) rfl rfl (by kernel_rfl) (by kernel_rfl) (by kernel_rfl) (fun _ _ _ h=>h) (Or.inl ⟨by kernel_rfl,?hyx12⟩) (by assumption) ?rtx12
  case hyx12=>(intro w hSw;clear hSw;go_simp;try(with_reducible rfl))
  try simp only [Act.put,List.setIfInBounds_toArray,List.set_cons_zero,List.set_cons_succ]
  refine wpAnyH_ready (rs:=[9]) (by kernel_rfl) (by simp) ?_;refine AllReadyH.cons (o:=_) rfl (fun K hK=> ?_) AllReadyH.nil;go_simp;refine hK.out _ _ (hHeld.sm ((Sm.refl No _).alloc _) (fun e=>e)) (fun hHeld=> ?_);clear hK;refine' aj (i:=10) (oi:=_) (d:=8) (v:=_) rfl rfl (by kernel_rfl) (by kernel_rfl) (by kernel_rfl) (fun _ _ _ h=>h) (Or.inl ⟨by kernel_rfl,?hyx13⟩) (by assumption) ?rtx13
  case hyx13=>(intro w hSw;clear hSw;go_simp;try(with_reducible rfl))
  try simp only [Act.put,List.setIfInBounds_toArray,List.set_cons_zero,List.set_cons_succ]
  refine' aj (i:=11) (oi:=_) (d:=9) (v:=_) rfl rfl (by kernel_rfl) (by kernel_rfl) (by kernel_rfl) (fun _ _ _ h=>h) (Or.inl ⟨by kernel_rfl,?hyx14⟩) (by assumption) ?rtx14
  case hyx14=>(intro w hSw;clear hSw;go_simp;try(with_reducible rfl))
  try simp only [Act.put,List.setIfInBounds_toArray,List.set_cons_zero,List.set_cons_succ]
  refine wpAnyH_done (by kernel_rfl) ?_ _;refine NoPanic.normal ?_;go_wp2_with fail;go_ret2;have s0:Sm No w w1.drew:=HS1.out.2.drew;have s1:Sm No w1.drew (w1.drew.alloc (.map #[] 0)):=(Sm.refl No w1.drew).alloc _;have s2:Sm No (w1.drew.alloc (.map #[] 0)) wq:=Hq.out.2;have s3:Sm No wq wp:=Hp.out.2;have t4:Sm No wp (wp.alloc (.cells (oY ⟨C,T,n⟩ ⟨gq,gs,gr,gp,(w1.drew).heap.size⟩ (Cn.new now)) 46)):=(Sm.refl No wp).alloc _;have t3:Sm No wq _:=s3.tt t4;have t2:Sm No (w1.drew.alloc (.map #[] 0)) _:=s2.tt t3;have t1:Sm No w1.drew _:=s1.tt t2;have t0:Sm No w _:=s0.tt t1;have z0:=s0.size;have z1:=s1.size;have z2:=s2.size;have z3:=s3.size;have zm:((w1.drew.alloc (.map #[] 0))).heap.size=(w1.drew).heap.size+1:=by simp
  have zd:w1.drew.heap.size=w1.heap.size:=rfl;have ze:(w1.alloc (.map #[] 0)).drew.heap.size=w1.heap.size+1:=by simp
  obtain⟨g1,pos,hw0,hr,hs,h34,h3,h4⟩:=HB.out;obtain⟨D,hI,hD⟩:=HI.out _ g1 pos hw0 t0 hr hs h34 h3 h4 (Hq.out.1.no t3) (Hp.out.1.no t4) ((dT.made (w1.drew)).no t2) (Bk.newAt (g:=wp.heap.size) wp _ _ (by simp)) ⟨by omega,by omega,by omega,by omega⟩ ⟨by omega,by omega,by omega⟩ (by omega) (by omega) (by omega);exact⟨_,_,D,rfl,hI,hD,t0⟩
end Go.Proofs.YtadcjgopaadfjaaGreatDoor
