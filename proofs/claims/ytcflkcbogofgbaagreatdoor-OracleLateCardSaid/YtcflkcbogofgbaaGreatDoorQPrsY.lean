import Derived.Test.YtcflkcbogofgbaaGreatDoorQV
set_option maxHeartbeats 16000000
set_option maxRecDepth 100000
namespace Go.Proofs.YtcflkcbogofgbaaGreatDoor
open Go.RowKit Go.Proofs
theorem fd.row{w w':World}{O:Nat→Prop}{gh B:Nat}{vF v:Value}{h:Hd}{l:af}(k:fd w O gh vF h)(hv:ay w B v l)(hs:Sm (fun x=>v.ownBlock=some x) w w'):fd w' O gh vF h:=
 k.sm hs (fun e=>ah hv k.hd.bk (by decide) e) (fun x e e2=>by
  obtain⟨c1,h1⟩:=ax hv e2;obtain⟨c2,h2⟩:=ax k.hd.2.1 e;rw [h1] at h2;injection h2 with h2;injection h2 with _ h2;exact absurd h2 (by decide))
structure fU (h:Hd) (L:af):Prop where
 ok:fk h
 line:L.length≤257
 whole:h.whole=false
 status:h.status=0
theorem av.head {w w1 w5 w6:World} {O:Nat→Prop} {g gh:Nat} {vF vL v':Value} {h:Hd} {L:af} {c:UInt8} {k l cl x vB ch cm:Value}
 (hK:eM w1 g 1 0 (bg gh) vL k l cl x vB ch cm) (hH:fd w1 (aA O w w1) gh vF h) (hL:ay w1 0 vL L) (hO:∀ y,vL.ownBlock=some y→aA O w w1 y) (og:O g) (hs1:Sm O w w1)
 (hO5:ay w5 0 v' (L++[c])) (hs5:Sm (fun b=>vL.ownBlock=some b) w1 w5) (hv5:∀ b,v'.ownBlock=some b→vL.ownBlock=some b∨w1.heap.size≤b) (hw:w5.setCell ⟨g,3,none⟩ v'=w6):
 (eM w6 g 1 0 (bg gh) v' k l cl x vB ch cm∧fd w6 (aA O w w6) gh vF h∧ay w6 0 v' (L++[c])∧(∀ y,v'.ownBlock=some y→aA O w w6 y))∧Sm O w w6:=by
 have hnL:vL.ownBlock≠some g:=ah hL hK (by decide);have hK5:=Bk.sm hK hs5 hnL;have hs6:Sm (fun y=>y=g) w5 w6:=by rw [←hw];exact(Sm.refl _ w5).set1 3 v'
 have up:∀ y,aA O w w1 y→aA O w w6 y:=fun y e=>e.elim Or.inl (fun e=>Or.inr ⟨e.1,Nat.lt_of_lt_of_le e.2 (Nat.le_trans hs5.size hs6.size)⟩);have hsw:Sm O w w6:=by
  have e2:Sm (aA O w w1) w1 w5:=hs5.mono (fun y _ e=>hO y e);exact((hs1.up e2).trans hs6 (fun y _ e=>e ▸ og))
 refine⟨⟨by rw [←hw];exact(Bk.set hK5 3 v').eq rfl,((hH.row hL hs5).own hK5 rfl hs6).imp up,aa hO5 hs6 (fun x e e2=>ah hO5 hK5 (by decide) (by rw [e,e2])),fun y e=> ?_⟩,hsw⟩;exact(hv5 y e).elim (fun e2=>up y (hO y e2)) (fun e2=>Or.inr ⟨Nat.le_trans hs1.size e2,Nat.lt_of_lt_of_le (World.ownsRow.lt hO5 y e).2 hs6.size⟩)
theorem av.badUp{w w6 w7:World}{O:Nat→Prop}{g:Nat}{s:Int}(h:bn w7 (aA (aA O w w6) w6 w7) g (.bad s)∧Sm (aA O w w6) w6 w7)(lt:∀ x,O x→x < w.heap.size)(og:O g)(hs:Sm O w w6):av w O g (.bad s) (.returned (.tuple #[])) w7:=
 av.up ⟨rfl,h⟩ lt og hs
theorem Ih(w:World)(O:Nat→Prop)(g:Nat)(c:UInt8)(h:Hd)(hI:bn w O g (.head h []))(hc:c=10):Calls Tryz.prog 40 #[.pointer (some ⟨g,0,none⟩),.int .u8 c.toNat] w (av w O g (.bad 400)):=by
 subst hc;obtain⟨⟨gh,vF,vL,k,l,cl,x,vB,ch,cm,hK,hH,hL,hO⟩,og,lt⟩:=hI;obtain⟨A,cp,hv, -⟩:=hL.slice;subst hv;have hgl:=Bk.lt hK;have hc:=Bk.all hK;have hz:=Bk.fz hK;have hgh:=hH.hd.bk.lt;have hch:=hH.hd.bk.all;unfold bg at hc;have H:=ns (BT hK (BT hH (BT hL (BT hO (BT og lt)))));clear hK hH hL hO og lt;go_in;go_wp2_with fail;refine(ep _ O g 400 H.out.1 H.out.2.2.2.2.1 H.out.2.2.2.2.2).mono ?_;rintro e w2 h2;have H2:=ns h2;clear h2;obtain⟨he,_⟩:=H2.out;subst he;go_wp2_with fail
 go_end0
 exact H2.out
theorem Hp(w:World)(O:Nat→Prop)(g:Nat)(c:UInt8)(h:Hd)(L:af)(hI:bn w O g (.head h L))(ho:fU h L)(h0:0 < L.length)(h13:∀ h:L.length-1 < L.length,L[L.length-1]≠13)(hc:c=10):Calls Tryz.prog 40 #[.pointer (some ⟨g,0,none⟩),.int .u8 c.toNat] w (av w O g (.bad 400)):=by
 subst hc;obtain⟨⟨gh,vF,vL,k,l,cl,x,vB,ch,cm,hK,hH,hL,hO⟩,og,lt⟩:=hI;have hlt:L.length-1 < L.length:=by omega
 obtain⟨A,cp,hv,hR,hcp, -⟩:=hL.slice;subst hv;obtain⟨bb,off,rfl,hbb,r0⟩:=hR.at (j:=L.length-1) (u:=.int .u8 (L[L.length-1]).toNat) (by simp [hlt,aM]);obtain⟨y,hy⟩:=Iu (L[L.length-1]);rw [hy] at r0;have k0:(0:Int) < (L.length:Int):=by omega
 have k2:(0:Int)≤(L.length:Int)-1:=by omega
 have k3:((L.length:Int)-1).toNat=L.length-1:=by omega
 have k4:((L.length:Int)==0)=false:=by rw [beq_eq_false_iff_ne];omega
 have k5:(L.length:Int)≤(cp:Int):=by omega
 have k6:(L.length:Int)≤1000:=by have:=ho.line;omega
 have e1:((y.toNat:Int)==13)=false:=aK (n:=13) (by decide) (by rw [←hy];exact h13 hlt);have e2:((y.toNat:Int) != 13)=true:=by simpa using e1
 clear hy h13 hR ho;have hgl:=Bk.lt hK;have hc:=Bk.all hK;have hz:=Bk.fz hK;have hgh:=hH.hd.bk.lt;have hch:=hH.hd.bk.all;unfold bg at hc;have H:=ns (BT hK (BT hH (BT hL (BT hO (BT og lt)))));clear hK hH hL hO og lt;go_in;go_wp2_with fail;refine(ep _ O g 400 H.out.1 H.out.2.2.2.2.1 H.out.2.2.2.2.2).mono ?_;rintro e w2 h2;have H2:=ns h2;clear h2;obtain⟨he,_⟩:=H2.out;subst he;go_wp2_with fail
 go_end0
 exact H2.out
theorem Fw(w:World)(O:Nat→Prop)(g:Nat)(c:UInt8)(h:Hd)(L:af)(hI:bn w O g (.head h L))(ho:fU h L)(hc:c=13)(hk:¬256 < L.length):Calls Tryz.prog 40 #[.pointer (some ⟨g,0,none⟩),.int .u8 c.toNat] w (av w O g (.head h (L++[c]))):=by
 have hLl:=ho.line;have e1:((c.toNat:Int)==10)=false:=by rw [hc];rfl
 have e2:((c.toNat:Int)==13)=true:=by rw [hc];rfl
 clear hc;have i1:¬(256:Int) < (L.length:Int):=by omega
 have i2:(L.length:Int)≤300:=by have:=ho.line;omega
 obtain⟨⟨gh,vF,vL,k,l,cl,x,vB,ch,cm,hK,hH,hL,hO⟩,og,lt⟩:=hI;obtain⟨A,cp,hv, -⟩:=hL.slice;subst hv;have hNL:(Value.slice A L.length cp).ownBlock≠some g:=ah hL hK (by decide);have HNL:=ns hNL;clear hNL ho;have hgl:=Bk.lt hK;have hc:=Bk.all hK;have hz:=Bk.fz hK;have hgh:=hH.hd.bk.lt;have hch:=hH.hd.bk.all;unfold bg at hc;have H:=ns (BT hK (BT hH (BT hL (BT hO (BT og lt)))));clear hK hH hL hO og lt;go_in;go_upto_region 18 with (at_builtin;refine aH rfl _ _ rfl c (.slice A L.length cp) L rfl H.out.2.2.1 rfl (by omega) ?_;intro v' w5 hO5 hs5 hv5;have hb5:=Bk.sm H.out.1 hs5 HNL.out;have hc5:=Bk.all hb5;have hz5:=Bk.fz hb5;have hl5:=Bk.lt hb5;unfold bg at hc5;obtain⟨A5,cp5,hv6, -⟩:=hO5.slice;have hv7:v'=.slice A5 (L.length+1) cp5:=hv6.trans (by simp);clear hv6;subst hv7;have H5:=ns (BT hb5 (BT hO5 (BT hs5 hv5)));clear hO5 hs5 hv5 hb5);obtain⟨w6,hw6⟩:=Iu (w5.setCell ⟨g,3,none⟩ (.slice A5 (L.length+1) cp5));have h6:=av.head H.out.1 (H.out.2.1.imp aA.le) H.out.2.2.1 (fun y e=>aA.le y (H.out.2.2.2.1 y e)) H.out.2.2.2.2.1 (Sm.refl O w) H5.out.2.1 H5.out.2.2.1 H5.out.2.2.2 hw6;rw [hw6];have hc6:=Bk.all h6.1.1;have hz6:=Bk.fz h6.1.1;have hl6:=Bk.lt h6.1.1;have hch6:=h6.1.2.1.hd.bk.all;have hgh6:=h6.1.2.1.hd.bk.lt;unfold bg at hc6;have H6:=ns h6;clear hw6 h6 hc5 hz5 hl5 hc hz hch hgh;go_wp2_with fail
 go_end0
 exact⟨rfl,⟨⟨gh,vF,_,_,_,_,_,_,_,_,H6.out.1⟩,Or.inl H.out.2.2.2.2.1,aA.lt H.out.2.2.2.2.2 H6.out.2.size⟩,H6.out.2⟩
theorem zV(w:World)(O:Nat→Prop)(g:Nat)(c:UInt8)(h:Hd)(L:af)(hI:bn w O g (.head h L))(ho:fU h L)(hc:c=13)(hk:256 < L.length)(hst:h.started=true):Calls Tryz.prog 40 #[.pointer (some ⟨g,0,none⟩),.int .u8 c.toNat] w (av w O g (.bad 431)):=by
 have hLl:=ho.line;have e1:((c.toNat:Int)==10)=false:=by rw [hc];rfl
 have e2:((c.toNat:Int)==13)=true:=by rw [hc];rfl
 clear hc;have i1:(256:Int) < (L.length:Int):=by omega
 have i2:(L.length:Int)≤300:=by have:=ho.line;omega
 obtain⟨⟨gh,vF,vL,k,l,cl,x,vB,ch,cm,hK,hH,hL,hO⟩,og,lt⟩:=hI;obtain⟨A,cp,hv, -⟩:=hL.slice;subst hv;have hNL:(Value.slice A L.length cp).ownBlock≠some g:=ah hL hK (by decide);have HNL:=ns hNL;clear hNL ho;have hgl:=Bk.lt hK;have hc:=Bk.all hK;have hz:=Bk.fz hK;have hgh:=hH.hd.bk.lt;have hch:=hH.hd.bk.all;unfold bg at hc;have H:=ns (BT hK (BT hH (BT hL (BT hO (BT og lt)))));clear hK hH hL hO og lt;rw [hst] at hch;go_in;go_upto_region 18 with (at_builtin;refine aH rfl _ _ rfl c (.slice A L.length cp) L rfl H.out.2.2.1 rfl (by omega) ?_;intro v' w5 hO5 hs5 hv5;have hb5:=Bk.sm H.out.1 hs5 HNL.out;have hc5:=Bk.all hb5;have hz5:=Bk.fz hb5;have hl5:=Bk.lt hb5;unfold bg at hc5;obtain⟨A5,cp5,hv6, -⟩:=hO5.slice;have hv7:v'=.slice A5 (L.length+1) cp5:=hv6.trans (by simp);clear hv6;subst hv7;have H5:=ns (BT hb5 (BT hO5 (BT hs5 hv5)));clear hO5 hs5 hv5 hb5);obtain⟨w6,hw6⟩:=Iu (w5.setCell ⟨g,3,none⟩ (.slice A5 (L.length+1) cp5));have h6:=av.head H.out.1 (H.out.2.1.imp aA.le) H.out.2.2.1 (fun y e=>aA.le y (H.out.2.2.2.1 y e)) H.out.2.2.2.2.1 (Sm.refl O w) H5.out.2.1 H5.out.2.2.1 H5.out.2.2.2 hw6;rw [hw6];have hc6:=Bk.all h6.1.1;have hz6:=Bk.fz h6.1.1;have hl6:=Bk.lt h6.1.1;have hch6:=h6.1.2.1.hd.bk.all;have hgh6:=h6.1.2.1.hd.bk.lt;unfold bg at hc6;rw [hst] at hch6;have H6:=ns h6;clear hw6 h6 hc5 hz5 hl5 hc hz hch hgh;go_wp2_with fail;refine(ep w6 (aA O w w6) g 431 H6.out.1.1 (Or.inl H.out.2.2.2.2.1) (aA.lt H.out.2.2.2.2.2 H6.out.2.size)).mono ?_;rintro e w7 ⟨rfl,h7⟩;have H7:=ns h7;clear h7;go_wp2_with fail
 go_end0
 exact av.badUp H7.out H.out.2.2.2.2.2 H.out.2.2.2.2.1 H6.out.2
theorem vV(w:World)(O:Nat→Prop)(g:Nat)(c:UInt8)(h:Hd)(L:af)(hI:bn w O g (.head h L))(ho:fU h L)(hc:c=13)(hk:256 < L.length)(hst:h.started=false):Calls Tryz.prog 40 #[.pointer (some ⟨g,0,none⟩),.int .u8 c.toNat] w (av w O g (.bad 414)):=by
 have hLl:=ho.line;have e1:((c.toNat:Int)==10)=false:=by rw [hc];rfl
 have e2:((c.toNat:Int)==13)=true:=by rw [hc];rfl
 clear hc;have i1:(256:Int) < (L.length:Int):=by omega
 have i2:(L.length:Int)≤300:=by have:=ho.line;omega
 obtain⟨⟨gh,vF,vL,k,l,cl,x,vB,ch,cm,hK,hH,hL,hO⟩,og,lt⟩:=hI;obtain⟨A,cp,hv, -⟩:=hL.slice;subst hv;have hNL:(Value.slice A L.length cp).ownBlock≠some g:=ah hL hK (by decide);have HNL:=ns hNL;clear hNL ho;have hgl:=Bk.lt hK;have hc:=Bk.all hK;have hz:=Bk.fz hK;have hgh:=hH.hd.bk.lt;have hch:=hH.hd.bk.all;unfold bg at hc;have H:=ns (BT hK (BT hH (BT hL (BT hO (BT og lt)))));clear hK hH hL hO og lt;rw [hst] at hch;go_in;go_upto_region 18 with (at_builtin;refine aH rfl _ _ rfl c (.slice A L.length cp) L rfl H.out.2.2.1 rfl (by omega) ?_;intro v' w5 hO5 hs5 hv5;have hb5:=Bk.sm H.out.1 hs5 HNL.out;have hc5:=Bk.all hb5;have hz5:=Bk.fz hb5;have hl5:=Bk.lt hb5;unfold bg at hc5;obtain⟨A5,cp5,hv6, -⟩:=hO5.slice;have hv7:v'=.slice A5 (L.length+1) cp5:=hv6.trans (by simp);clear hv6;subst hv7;have H5:=ns (BT hb5 (BT hO5 (BT hs5 hv5)));clear hO5 hs5 hv5 hb5);obtain⟨w6,hw6⟩:=Iu (w5.setCell ⟨g,3,none⟩ (.slice A5 (L.length+1) cp5));have h6:=av.head H.out.1 (H.out.2.1.imp aA.le) H.out.2.2.1 (fun y e=>aA.le y (H.out.2.2.2.1 y e)) H.out.2.2.2.2.1 (Sm.refl O w) H5.out.2.1 H5.out.2.2.1 H5.out.2.2.2 hw6;rw [hw6];have hc6:=Bk.all h6.1.1;have hz6:=Bk.fz h6.1.1;have hl6:=Bk.lt h6.1.1;have hch6:=h6.1.2.1.hd.bk.all;have hgh6:=h6.1.2.1.hd.bk.lt;unfold bg at hc6;rw [hst] at hch6;have H6:=ns h6;clear hw6 h6 hc5 hz5 hl5 hc hz hch hgh;go_wp2_with fail;refine(ep w6 (aA O w w6) g 414 H6.out.1.1 (Or.inl H.out.2.2.2.2.1) (aA.lt H.out.2.2.2.2.2 H6.out.2.size)).mono ?_;rintro e w7 ⟨rfl,h7⟩;have H7:=ns h7;clear h7;go_wp2_with fail
 go_end0
 exact av.badUp H7.out H.out.2.2.2.2.2 H.out.2.2.2.2.1 H6.out.2
theorem Fl(w:World)(O:Nat→Prop)(g:Nat)(c:UInt8)(h:Hd)(L:af)(hI:bn w O g (.head h L))(ho:fU h L)(h10:c≠10)(h13:c≠13)(hk:¬256 < L.length+1):Calls Tryz.prog 40 #[.pointer (some ⟨g,0,none⟩),.int .u8 c.toNat] w (av w O g (.head h (L++[c]))):=by
 have hLl:=ho.line;have e1:((c.toNat:Int)==10)=false:=aK (n:=10) (by decide) h10;have e2:((c.toNat:Int)==13)=false:=aK (n:=13) (by decide) h13;clear h10 h13;have i1:¬(256:Int) < (L.length:Int)+1:=by omega
 have i2:(L.length:Int)≤300:=by have:=ho.line;omega
 obtain⟨⟨gh,vF,vL,k,l,cl,x,vB,ch,cm,hK,hH,hL,hO⟩,og,lt⟩:=hI;obtain⟨A,cp,hv, -⟩:=hL.slice;subst hv;have hNL:(Value.slice A L.length cp).ownBlock≠some g:=ah hL hK (by decide);have HNL:=ns hNL;clear hNL ho;have hgl:=Bk.lt hK;have hc:=Bk.all hK;have hz:=Bk.fz hK;have hgh:=hH.hd.bk.lt;have hch:=hH.hd.bk.all;unfold bg at hc;have H:=ns (BT hK (BT hH (BT hL (BT hO (BT og lt)))));clear hK hH hL hO og lt;go_in;go_upto_region 18 with (at_builtin;refine aH rfl _ _ rfl c (.slice A L.length cp) L rfl H.out.2.2.1 rfl (by omega) ?_;intro v' w5 hO5 hs5 hv5;have hb5:=Bk.sm H.out.1 hs5 HNL.out;have hc5:=Bk.all hb5;have hz5:=Bk.fz hb5;have hl5:=Bk.lt hb5;unfold bg at hc5;obtain⟨A5,cp5,hv6, -⟩:=hO5.slice;have hv7:v'=.slice A5 (L.length+1) cp5:=hv6.trans (by simp);clear hv6;subst hv7;have H5:=ns (BT hb5 (BT hO5 (BT hs5 hv5)));clear hO5 hs5 hv5 hb5);obtain⟨w6,hw6⟩:=Iu (w5.setCell ⟨g,3,none⟩ (.slice A5 (L.length+1) cp5));have h6:=av.head H.out.1 (H.out.2.1.imp aA.le) H.out.2.2.1 (fun y e=>aA.le y (H.out.2.2.2.1 y e)) H.out.2.2.2.2.1 (Sm.refl O w) H5.out.2.1 H5.out.2.2.1 H5.out.2.2.2 hw6;rw [hw6];have hc6:=Bk.all h6.1.1;have hz6:=Bk.fz h6.1.1;have hl6:=Bk.lt h6.1.1;have hch6:=h6.1.2.1.hd.bk.all;have hgh6:=h6.1.2.1.hd.bk.lt;unfold bg at hc6;have H6:=ns h6;clear hw6 h6 hc5 hz5 hl5 hc hz hch hgh;go_wp2_with fail
 go_end0
 exact⟨rfl,⟨⟨gh,vF,_,_,_,_,_,_,_,_,H6.out.1⟩,Or.inl H.out.2.2.2.2.1,aA.lt H.out.2.2.2.2.2 H6.out.2.size⟩,H6.out.2⟩
theorem AI(w:World)(O:Nat→Prop)(g:Nat)(c:UInt8)(h:Hd)(L:af)(hI:bn w O g (.head h L))(ho:fU h L)(h10:c≠10)(h13:c≠13)(hk:256 < L.length+1)(hst:h.started=true):Calls Tryz.prog 40 #[.pointer (some ⟨g,0,none⟩),.int .u8 c.toNat] w (av w O g (.bad 431)):=by
 have hLl:=ho.line;have e1:((c.toNat:Int)==10)=false:=aK (n:=10) (by decide) h10;have e2:((c.toNat:Int)==13)=false:=aK (n:=13) (by decide) h13;clear h10 h13;have i1:(256:Int) < (L.length:Int)+1:=by omega
 have i2:(L.length:Int)≤300:=by have:=ho.line;omega
 obtain⟨⟨gh,vF,vL,k,l,cl,x,vB,ch,cm,hK,hH,hL,hO⟩,og,lt⟩:=hI;obtain⟨A,cp,hv, -⟩:=hL.slice;subst hv;have hNL:(Value.slice A L.length cp).ownBlock≠some g:=ah hL hK (by decide);have HNL:=ns hNL;clear hNL ho;have hgl:=Bk.lt hK;have hc:=Bk.all hK;have hz:=Bk.fz hK;have hgh:=hH.hd.bk.lt;have hch:=hH.hd.bk.all;unfold bg at hc;have H:=ns (BT hK (BT hH (BT hL (BT hO (BT og lt)))));clear hK hH hL hO og lt;rw [hst] at hch;go_in;go_upto_region 18 with (at_builtin;refine aH rfl _ _ rfl c (.slice A L.length cp) L rfl H.out.2.2.1 rfl (by omega) ?_;intro v' w5 hO5 hs5 hv5;have hb5:=Bk.sm H.out.1 hs5 HNL.out;have hc5:=Bk.all hb5;have hz5:=Bk.fz hb5;have hl5:=Bk.lt hb5;unfold bg at hc5;obtain⟨A5,cp5,hv6, -⟩:=hO5.slice;have hv7:v'=.slice A5 (L.length+1) cp5:=hv6.trans (by simp);clear hv6;subst hv7;have H5:=ns (BT hb5 (BT hO5 (BT hs5 hv5)));clear hO5 hs5 hv5 hb5);obtain⟨w6,hw6⟩:=Iu (w5.setCell ⟨g,3,none⟩ (.slice A5 (L.length+1) cp5));have h6:=av.head H.out.1 (H.out.2.1.imp aA.le) H.out.2.2.1 (fun y e=>aA.le y (H.out.2.2.2.1 y e)) H.out.2.2.2.2.1 (Sm.refl O w) H5.out.2.1 H5.out.2.2.1 H5.out.2.2.2 hw6;rw [hw6];have hc6:=Bk.all h6.1.1;have hz6:=Bk.fz h6.1.1;have hl6:=Bk.lt h6.1.1;have hch6:=h6.1.2.1.hd.bk.all;have hgh6:=h6.1.2.1.hd.bk.lt;unfold bg at hc6;rw [hst] at hch6;have H6:=ns h6;clear hw6 h6 hc5 hz5 hl5 hc hz hch hgh;go_wp2_with fail;refine(ep w6 (aA O w w6) g 431 H6.out.1.1 (Or.inl H.out.2.2.2.2.1) (aA.lt H.out.2.2.2.2.2 H6.out.2.size)).mono ?_;rintro e w7 ⟨rfl,h7⟩;have H7:=ns h7;clear h7;go_wp2_with fail
 go_end0
 exact av.badUp H7.out H.out.2.2.2.2.2 H.out.2.2.2.2.1 H6.out.2
theorem wz(w:World)(O:Nat→Prop)(g:Nat)(c:UInt8)(h:Hd)(L:af)(hI:bn w O g (.head h L))(ho:fU h L)(h10:c≠10)(h13:c≠13)(hk:256 < L.length+1)(hst:h.started=false):Calls Tryz.prog 40 #[.pointer (some ⟨g,0,none⟩),.int .u8 c.toNat] w (av w O g (.bad 414)):=by
 have hLl:=ho.line;have e1:((c.toNat:Int)==10)=false:=aK (n:=10) (by decide) h10;have e2:((c.toNat:Int)==13)=false:=aK (n:=13) (by decide) h13;clear h10 h13;have i1:(256:Int) < (L.length:Int)+1:=by omega
 have i2:(L.length:Int)≤300:=by have:=ho.line;omega
 obtain⟨⟨gh,vF,vL,k,l,cl,x,vB,ch,cm,hK,hH,hL,hO⟩,og,lt⟩:=hI;obtain⟨A,cp,hv, -⟩:=hL.slice;subst hv;have hNL:(Value.slice A L.length cp).ownBlock≠some g:=ah hL hK (by decide);have HNL:=ns hNL;clear hNL ho;have hgl:=Bk.lt hK;have hc:=Bk.all hK;have hz:=Bk.fz hK;have hgh:=hH.hd.bk.lt;have hch:=hH.hd.bk.all;unfold bg at hc;have H:=ns (BT hK (BT hH (BT hL (BT hO (BT og lt)))));clear hK hH hL hO og lt;rw [hst] at hch;go_in;go_upto_region 18 with (at_builtin;refine aH rfl _ _ rfl c (.slice A L.length cp) L rfl H.out.2.2.1 rfl (by omega) ?_;intro v' w5 hO5 hs5 hv5;have hb5:=Bk.sm H.out.1 hs5 HNL.out;have hc5:=Bk.all hb5;have hz5:=Bk.fz hb5;have hl5:=Bk.lt hb5;unfold bg at hc5;obtain⟨A5,cp5,hv6, -⟩:=hO5.slice;have hv7:v'=.slice A5 (L.length+1) cp5:=hv6.trans (by simp);clear hv6;subst hv7;have H5:=ns (BT hb5 (BT hO5 (BT hs5 hv5)));clear hO5 hs5 hv5 hb5);obtain⟨w6,hw6⟩:=Iu (w5.setCell ⟨g,3,none⟩ (.slice A5 (L.length+1) cp5));have h6:=av.head H.out.1 (H.out.2.1.imp aA.le) H.out.2.2.1 (fun y e=>aA.le y (H.out.2.2.2.1 y e)) H.out.2.2.2.2.1 (Sm.refl O w) H5.out.2.1 H5.out.2.2.1 H5.out.2.2.2 hw6;rw [hw6];have hc6:=Bk.all h6.1.1;have hz6:=Bk.fz h6.1.1;have hl6:=Bk.lt h6.1.1;have hch6:=h6.1.2.1.hd.bk.all;have hgh6:=h6.1.2.1.hd.bk.lt;unfold bg at hc6;rw [hst] at hch6;have H6:=ns h6;clear hw6 h6 hc5 hz5 hl5 hc hz hch hgh;go_wp2_with fail;refine(ep w6 (aA O w w6) g 414 H6.out.1.1 (Or.inl H.out.2.2.2.2.1) (aA.lt H.out.2.2.2.2.2 H6.out.2.size)).mono ?_;rintro e w7 ⟨rfl,h7⟩;have H7:=ns h7;clear h7;go_wp2_with fail
 go_end0
 exact av.badUp H7.out H.out.2.2.2.2.2 H.out.2.2.2.2.1 H6.out.2
theorem Ia(w:World)(O:Nat→Prop)(g:Nat)(c:UInt8)(h:Hd)(L:af)(hI:bn w O g (.head h L))(ho:fU h L)(h13:L.getLast?=some 13)(hc:c=10):Calls Tryz.prog 40 #[.pointer (some ⟨g,0,none⟩),.int .u8 c.toNat] w (av w O g (if (bf h L.dropLast).status≠0 then .bad (bf h L.dropLast).status else if (bf h L.dropLast).whole=true then cz (bf h L.dropLast) else .head (bf h L.dropLast) [])):=by
 subst hc;have hLl:=ho.line;obtain⟨⟨gh,vF,vL,k,l,cl,x,vB,ch,cm,hK,hH,hL,hO⟩,og,lt⟩:=hI;have h0:0 < L.length:=by
  cases L with
  |nil=>cases h13
  |cons=>simp
 rcases hL.by with ⟨_,hn⟩|⟨gL,cap,hv,_,hBy⟩
 ·subst hn;cases h13
 subst hv;have hlt:L.length-1 < L.length:=by omega
 have hcap:=iu hL;have hy:L[L.length-1]=13:=by
  rw [List.getLast?_eq_getElem?,List.getElem?_eq_getElem hlt] at h13;exact Option.some.inj h13
 have r0:=(hBy.2 (L.length-1) 13 (by rw [List.getElem?_eq_getElem hlt,hy])).1;have hByD:By w gL L.dropLast:=by rw [List.dropLast_eq_take];exact hBy.pre _
 have k0:(0:Int) < (L.length:Int):=by omega
 have k2:(0:Int)≤(L.length:Int)-1:=by omega
 have k3:((L.length:Int)-1).toNat=L.length-1:=by omega
 have k4:((L.length:Int)==0)=false:=by rw [beq_eq_false_iff_ne];omega
 have k5:(L.length:Int)≤(cap:Int):=by omega
 have k6:(L.length:Int)≤1000:=by omega
 have k7:(L.length:Int)-1≤(cap:Int):=by omega
 obtain⟨sB,hsB⟩:=Iu ((⟨L.dropLast.toArray⟩:ByteArray));have hst:ab sB=L.dropLast:=by rw [←hsB];rfl
 have hsz:sB.size≤300:=by rw [←ae,hst,List.length_dropLast];omega
 have HB:=ns (BT hByD (BT hst hsB));obtain⟨h',hh'⟩:=Iu (bf h L.dropLast);rw [hh'];obtain⟨R,hR⟩:=Iu ((if h'.status≠0 then cu.bad h'.status else if h'.whole=true then cz h' else .head h' []));rw [hR];have HR:=ns hR;have HH':=ns hh';have HOk:=ns ho;clear hy h13 hBy hByD hst hsB hR hh' ho;obtain⟨w1,hw1⟩:=Iu (w.setCell ⟨g,3,none⟩ (.slice none 0 0));have hs1:Sm (fun y=>y=g) w w1:=by rw [←hw1];exact(Sm.refl _ w).set1 3 (.slice none 0 0)
 have hK1:eM w1 g 1 0 (bg gh) (.slice none 0 0) k l cl x vB ch cm:=by rw [←hw1];exact(Bk.set hK 3 (.slice none 0 0)).eq rfl
 have hH1:=hH.own hK rfl hs1;have HLn:=Bj w1 0 gh vF h sB hH1.hd HOk.out.ok (Nat.zero_le _) HOk.out.whole HOk.out.status;rw [HB.out.2.1,HH'.out] at HLn;have HLn:=ns HLn;have hngg:gh≠g:=mx hH.hd.bk hK (by decide);have H1:=ns (BT hw1 (BT hs1 (BT hK1 hH1)));have hc1:=Bk.all hK1;have hz1:=Bk.fz hK1;have hgl1:=Bk.lt hK1;unfold bg at hc1;clear hw1 hs1 hK1 hH1;have hgl:=Bk.lt hK;have hc:=Bk.all hK;have hz:=Bk.fz hK;have hgh:=hH.hd.bk.lt;have hch:=hH.hd.bk.all;unfold bg at hc;have H:=ns (BT hK (BT hH (BT hL (BT hO (BT og lt)))));clear hK hH hL hO og lt;go_in;go_upto_region 11 with (refine aE rfl 22 9 5 _ rfl gL (L.length-1) cap L.dropLast rfl Tryz.underlying22 Tryz.underlying5 Tryz.underlying9 HB.out.1 (by simp) ?_);rw [HB.out.2.2];go_upto_region 12 with fail;rw [H1.out.1];clear hc hz hch;go_wp2_with fail;refine HLn.out.mono ?_;rintro e w2 ⟨v2,rfl,hI2,hs2,hf2⟩;have hvg:vF.ownBlock≠some g:=ah H.out.2.1.hd.2.1 H.out.1 (by decide);have hK2:eM w2 g 1 0 (bg gh) (.slice none 0 0) k l cl x vB ch cm:=Bk.sm H1.out.2.2.1 hs2 (fun e=>e.elim (fun e=>hngg e.symm) (fun e=>hvg e));have hsw:Sm O w w2:=by
  have e1:Sm O w w1:=H1.out.2.1.mono (fun y _ e=>e ▸ H.out.2.2.2.2.1);have e2:Sm O w1 w2:=hs2.mono (fun y _ e=>e.elim (fun e=>e ▸ H.out.2.1.og) (fun e=>H.out.2.1.of y e));exact e1.tt e2
 have hH2:fd w2 (aA O w w2) gh v2 h':=⟨hI2,Or.inl H.out.2.1.og,fun y e=>by
  rcases hf2 with e2|⟨b,e2,e3⟩
  ·exact Or.inl (H.out.2.1.of y (by rw [←e2];exact e))
  ·have:=(World.ownsRow.lt hI2.2.1 y e).2;rw [e] at e2;injection e2 with e2;exact Or.inr ⟨by rw [e2];exact Nat.le_trans H1.out.2.1.size e3,this⟩⟩
 have hgl2:=Bk.lt hK2;have H2:=ns (BT hK2 (BT hsw hH2));clear hI2 hs2 hf2 hK2 hsw hH2 hvg hc1 hz1;obtain⟨st,hst⟩:=Iu h'.status;obtain⟨wh,hwh⟩:=Iu h'.whole;rw [hst,hwh];have HS:=ns (BT hst hwh);clear hst hwh;by_cases h0:st=0
 ·subst h0
  cases wh with
  |true=>
   have HE:=ns (show R=cz h' from by rw [←HR.out,if_neg (by rw [HS.out.1];simp),if_pos HS.out.2]);go_wp2_with fail;refine(sL w2 (aA O w w2) g gh v2 h' H2.out.1 H2.out.2.2 (Or.inl H.out.2.2.2.2.1) (aA.lt H.out.2.2.2.2.2 H2.out.2.1.size)).mono ?_;rintro e w3 ⟨rfl,h3⟩;have H3:=ns h3;clear h3;go_wp2_with fail
   go_end0
   rw [HE.out];exact av.up ⟨rfl,H3.out⟩ H.out.2.2.2.2.2 H.out.2.2.2.2.1 H2.out.2.1
  |false=>
   have HE:=ns (show R=.head h' [] from by rw [←HR.out,if_neg (by rw [HS.out.1];simp),if_neg (by rw [HS.out.2];decide)]);go_wp2_with fail
   go_end0
   rw [HE.out];exact⟨rfl,⟨⟨gh,v2,_,_,_,_,_,_,_,_,H2.out.1,H2.out.2.2,ay.nil _ _,fun y e=>by cases e⟩,Or.inl H.out.2.2.2.2.1,aA.lt H.out.2.2.2.2.2 H2.out.2.1.size⟩,H2.out.2.1⟩
 ·have e1:(st==0)=false:=by simp [h0]
  have e2:(st != 0)=true:=by simp [h0]
  have HE:=ns (show R=.bad st from by rw [←HR.out,if_pos (by rw [HS.out.1];exact h0),HS.out.1]);clear h0;go_wp2_with fail;refine(ep w2 (aA O w w2) g st H2.out.1 (Or.inl H.out.2.2.2.2.1) (aA.lt H.out.2.2.2.2.2 H2.out.2.1.size)).mono ?_;rintro e w3 ⟨rfl,h3⟩;have H3:=ns h3;clear h3;go_wp2_with fail
  go_end0
  rw [HE.out];exact av.badUp H3.out H.out.2.2.2.2.2 H.out.2.2.2.2.1 H2.out.2.1
theorem GZ(w:World)(O:Nat→Prop)(g:Nat)(c:UInt8)(hI:bn w O g .idle)(hc:c=10):Calls Tryz.prog 40 #[.pointer (some ⟨g,0,none⟩),.int .u8 c.toNat] w (av w O g (.bad 400)):=by
 subst hc;obtain⟨⟨hd,ln,k,l,cl,x,vB,ch,cm,hK⟩,og,lt⟩:=hI;have hgl:=Bk.lt hK;have hc:=Bk.all hK;have hz:=Bk.fz hK;have H:=ns (BT hK (BT og lt));clear hK og lt;go_in;go_upto_region 6 with fail;obtain⟨w0,hw0⟩:=Iu ((((w.setCell ⟨g,0,none⟩ (.int .i64 1)).setCell ⟨g,2,none⟩ (.pointer (some ⟨w.heap.size,0,none⟩))).setCell ⟨g,3,none⟩ (.slice none 0 0)));have hs0:Sm (fun y=>y=g) w w0:=by rw [←hw0];exact(((Sm.refl _ w).set1 0 (.int .i64 1)).set1 2 (.pointer (some ⟨w.heap.size,0,none⟩))).set1 3 (.slice none 0 0)
 have hK0:eM w0 g 1 0 (bg w.heap.size) (.slice none 0 0) k l cl x vB ch cm:=by rw [←hw0];exact(((Bk.set H.out.1 0 (.int .i64 1)).set 2 (.pointer (some ⟨w.heap.size,0,none⟩))).set 3 (.slice none 0 0)).eq rfl
 have hsz0:w0.heap.size=w.heap.size:=by rw [←hw0];simp
 rw [hw0];obtain⟨w1,hw1⟩:∃ w1,w0.alloc (.cells #[.slice none 0 0,.string ⟨#[]⟩,.int .i64 0,.string ⟨#[]⟩,.string ⟨#[]⟩,.string ⟨#[]⟩,.int .i64 0,.int .i64 0,.int .i64 0,.bool false,.bool false,.bool false,.bool false,.int .i64 0,.int .i64 0,.int .i64 0] 100)=w1:=⟨_,rfl⟩;have hb1:Bk w1 w.heap.size 100 #[.slice none 0 0,.string ⟨#[]⟩,.int .i64 0,.string ⟨#[]⟩,.string ⟨#[]⟩,.string ⟨#[]⟩,.int .i64 0,.int .i64 0,.int .i64 0,.bool false,.bool false,.bool false,.bool false,.int .i64 0,.int .i64 0,.int .i64 0]:=by rw [←hw1];exact Bk.newAt w0 _ _ hsz0.symm
 have hK1:eM w1 g 1 0 (bg w.heap.size) (.slice none 0 0) k l cl x vB ch cm:=by rw [←hw1];exact Bk.alloc hK0 _
 have hs1:Sm O w w1:=by rw [←hw1];exact(hs0.alloc _).mono (fun y _ e=>e ▸ H.out.2.1)
 have hH1:fd w1 (aA O w w1) w.heap.size (.slice none 0 0) Hd.new:=⟨⟨hb1,World.ownsRow_nil _ _ _ _,fun e=>by cases e⟩,Or.inr ⟨Nat.le_refl _,hb1.lt⟩,fun y e=>by cases e⟩;rw [hw1];have H1:=ns (BT hK1 (BT hs1 hH1));have hc1:=Bk.all hK1;have hz1:=Bk.fz hK1;have hl1:=Bk.lt hK1;have hch1:=hb1.all;have hgh1:=hb1.lt;unfold bg at hc1;clear hw0 hs0 hK0 hsz0 hw1 hb1 hK1 hs1 hH1 hc hz;go_wp2_with fail;refine(ep w1 (aA O w w1) g 400 H1.out.1 (Or.inl H.out.2.1) (aA.lt H.out.2.2 H1.out.2.1.size)).mono ?_;rintro e w2 ⟨rfl,h2⟩;have H2:=ns h2;clear h2;go_wp2_with fail
 go_end0
 exact av.badUp H2.out H.out.2.2 H.out.2.1 H1.out.2.1
theorem Gp(w:World)(O:Nat→Prop)(g:Nat)(c:UInt8)(hI:bn w O g .idle)(hc:c=13):Calls Tryz.prog 40 #[.pointer (some ⟨g,0,none⟩),.int .u8 c.toNat] w (av w O g (.head Hd.new [c])):=by
 have e1:((c.toNat:Int)==10)=false:=by rw [hc];rfl
 have e2:((c.toNat:Int)==13)=true:=by rw [hc];rfl
 clear hc;obtain⟨⟨hd,ln,k,l,cl,x,vB,ch,cm,hK⟩,og,lt⟩:=hI;have hgl:=Bk.lt hK;have hc:=Bk.all hK;have hz:=Bk.fz hK;have H:=ns (BT hK (BT og lt));clear hK og lt;go_in;go_upto_region 6 with fail;obtain⟨w0,hw0⟩:=Iu ((((w.setCell ⟨g,0,none⟩ (.int .i64 1)).setCell ⟨g,2,none⟩ (.pointer (some ⟨w.heap.size,0,none⟩))).setCell ⟨g,3,none⟩ (.slice none 0 0)));have hs0:Sm (fun y=>y=g) w w0:=by rw [←hw0];exact(((Sm.refl _ w).set1 0 (.int .i64 1)).set1 2 (.pointer (some ⟨w.heap.size,0,none⟩))).set1 3 (.slice none 0 0)
 have hK0:eM w0 g 1 0 (bg w.heap.size) (.slice none 0 0) k l cl x vB ch cm:=by rw [←hw0];exact(((Bk.set H.out.1 0 (.int .i64 1)).set 2 (.pointer (some ⟨w.heap.size,0,none⟩))).set 3 (.slice none 0 0)).eq rfl
 have hsz0:w0.heap.size=w.heap.size:=by rw [←hw0];simp
 rw [hw0];obtain⟨w1,hw1⟩:∃ w1,w0.alloc (.cells #[.slice none 0 0,.string ⟨#[]⟩,.int .i64 0,.string ⟨#[]⟩,.string ⟨#[]⟩,.string ⟨#[]⟩,.int .i64 0,.int .i64 0,.int .i64 0,.bool false,.bool false,.bool false,.bool false,.int .i64 0,.int .i64 0,.int .i64 0] 100)=w1:=⟨_,rfl⟩;have hb1:Bk w1 w.heap.size 100 #[.slice none 0 0,.string ⟨#[]⟩,.int .i64 0,.string ⟨#[]⟩,.string ⟨#[]⟩,.string ⟨#[]⟩,.int .i64 0,.int .i64 0,.int .i64 0,.bool false,.bool false,.bool false,.bool false,.int .i64 0,.int .i64 0,.int .i64 0]:=by rw [←hw1];exact Bk.newAt w0 _ _ hsz0.symm
 have hK1:eM w1 g 1 0 (bg w.heap.size) (.slice none 0 0) k l cl x vB ch cm:=by rw [←hw1];exact Bk.alloc hK0 _
 have hs1:Sm O w w1:=by rw [←hw1];exact(hs0.alloc _).mono (fun y _ e=>e ▸ H.out.2.1)
 have hH1:fd w1 (aA O w w1) w.heap.size (.slice none 0 0) Hd.new:=⟨⟨hb1,World.ownsRow_nil _ _ _ _,fun e=>by cases e⟩,Or.inr ⟨Nat.le_refl _,hb1.lt⟩,fun y e=>by cases e⟩;rw [hw1];have H1:=ns (BT hK1 (BT hs1 hH1));have hc1:=Bk.all hK1;have hz1:=Bk.fz hK1;have hl1:=Bk.lt hK1;have hch1:=hb1.all;have hgh1:=hb1.lt;unfold bg at hc1;clear hw0 hs0 hK0 hsz0 hw1 hb1 hK1 hs1 hH1 hc hz;go_upto_region 18 with (at_builtin;refine aH rfl _ _ rfl c (.slice none 0 0) [] rfl (ay.nil w1 0) rfl (by decide) ?_;intro v' w5 hO5 hs5 hv5;have hb5:=Bk.sm H1.out.1 hs5 (fun e=>by cases e);have hc5:=Bk.all hb5;have hz5:=Bk.fz hb5;have hl5:=Bk.lt hb5;unfold bg at hc5;obtain⟨A5,cp5,hv6, -⟩:=hO5.slice;have hv7:v'=.slice A5 1 cp5:=hv6.trans (by simp);clear hv6;subst hv7;have H5:=ns (BT hb5 (BT hO5 (BT hs5 hv5)));clear hO5 hs5 hv5 hb5);obtain⟨w6,hw6⟩:=Iu (w5.setCell ⟨g,3,none⟩ (.slice A5 1 cp5));have h6:=av.head H1.out.1 H1.out.2.2 (ay.nil w1 0) (fun y e=>by cases e) H.out.2.1 H1.out.2.1 H5.out.2.1 H5.out.2.2.1 H5.out.2.2.2 hw6;rw [hw6];have hc6:=Bk.all h6.1.1;have hz6:=Bk.fz h6.1.1;have hl6:=Bk.lt h6.1.1;unfold bg at hc6;have H6:=ns h6;clear hw6 h6 hc5 hz5 hl5 hc1 hz1 hch1 hgh1;go_wp2_with fail
 go_end0
 exact⟨rfl,⟨⟨_,_,_,_,_,_,_,_,_,_,H6.out.1⟩,Or.inl H.out.2.1,aA.lt H.out.2.2 H6.out.2.size⟩,H6.out.2⟩
theorem Hv(w:World)(O:Nat→Prop)(g:Nat)(c:UInt8)(hI:bn w O g .idle)(h10:c≠10)(h13:c≠13):Calls Tryz.prog 40 #[.pointer (some ⟨g,0,none⟩),.int .u8 c.toNat] w (av w O g (.head Hd.new [c])):=by
 have e1:((c.toNat:Int)==10)=false:=aK (n:=10) (by decide) h10;have e2:((c.toNat:Int)==13)=false:=aK (n:=13) (by decide) h13;clear h10 h13;obtain⟨⟨hd,ln,k,l,cl,x,vB,ch,cm,hK⟩,og,lt⟩:=hI;have hgl:=Bk.lt hK;have hc:=Bk.all hK;have hz:=Bk.fz hK;have H:=ns (BT hK (BT og lt));clear hK og lt;go_in;go_upto_region 6 with fail;obtain⟨w0,hw0⟩:=Iu ((((w.setCell ⟨g,0,none⟩ (.int .i64 1)).setCell ⟨g,2,none⟩ (.pointer (some ⟨w.heap.size,0,none⟩))).setCell ⟨g,3,none⟩ (.slice none 0 0)));have hs0:Sm (fun y=>y=g) w w0:=by rw [←hw0];exact(((Sm.refl _ w).set1 0 (.int .i64 1)).set1 2 (.pointer (some ⟨w.heap.size,0,none⟩))).set1 3 (.slice none 0 0)
 have hK0:eM w0 g 1 0 (bg w.heap.size) (.slice none 0 0) k l cl x vB ch cm:=by rw [←hw0];exact(((Bk.set H.out.1 0 (.int .i64 1)).set 2 (.pointer (some ⟨w.heap.size,0,none⟩))).set 3 (.slice none 0 0)).eq rfl
 have hsz0:w0.heap.size=w.heap.size:=by rw [←hw0];simp
 rw [hw0];obtain⟨w1,hw1⟩:∃ w1,w0.alloc (.cells #[.slice none 0 0,.string ⟨#[]⟩,.int .i64 0,.string ⟨#[]⟩,.string ⟨#[]⟩,.string ⟨#[]⟩,.int .i64 0,.int .i64 0,.int .i64 0,.bool false,.bool false,.bool false,.bool false,.int .i64 0,.int .i64 0,.int .i64 0] 100)=w1:=⟨_,rfl⟩;have hb1:Bk w1 w.heap.size 100 #[.slice none 0 0,.string ⟨#[]⟩,.int .i64 0,.string ⟨#[]⟩,.string ⟨#[]⟩,.string ⟨#[]⟩,.int .i64 0,.int .i64 0,.int .i64 0,.bool false,.bool false,.bool false,.bool false,.int .i64 0,.int .i64 0,.int .i64 0]:=by rw [←hw1];exact Bk.newAt w0 _ _ hsz0.symm
 have hK1:eM w1 g 1 0 (bg w.heap.size) (.slice none 0 0) k l cl x vB ch cm:=by rw [←hw1];exact Bk.alloc hK0 _
 have hs1:Sm O w w1:=by rw [←hw1];exact(hs0.alloc _).mono (fun y _ e=>e ▸ H.out.2.1)
 have hH1:fd w1 (aA O w w1) w.heap.size (.slice none 0 0) Hd.new:=⟨⟨hb1,World.ownsRow_nil _ _ _ _,fun e=>by cases e⟩,Or.inr ⟨Nat.le_refl _,hb1.lt⟩,fun y e=>by cases e⟩;rw [hw1];have H1:=ns (BT hK1 (BT hs1 hH1));have hc1:=Bk.all hK1;have hz1:=Bk.fz hK1;have hl1:=Bk.lt hK1;have hch1:=hb1.all;have hgh1:=hb1.lt;unfold bg at hc1;clear hw0 hs0 hK0 hsz0 hw1 hb1 hK1 hs1 hH1 hc hz;go_upto_region 18 with (at_builtin;refine aH rfl _ _ rfl c (.slice none 0 0) [] rfl (ay.nil w1 0) rfl (by decide) ?_;intro v' w5 hO5 hs5 hv5;have hb5:=Bk.sm H1.out.1 hs5 (fun e=>by cases e);have hc5:=Bk.all hb5;have hz5:=Bk.fz hb5;have hl5:=Bk.lt hb5;unfold bg at hc5;obtain⟨A5,cp5,hv6, -⟩:=hO5.slice;have hv7:v'=.slice A5 1 cp5:=hv6.trans (by simp);clear hv6;subst hv7;have H5:=ns (BT hb5 (BT hO5 (BT hs5 hv5)));clear hO5 hs5 hv5 hb5);obtain⟨w6,hw6⟩:=Iu (w5.setCell ⟨g,3,none⟩ (.slice A5 1 cp5));have h6:=av.head H1.out.1 H1.out.2.2 (ay.nil w1 0) (fun y e=>by cases e) H.out.2.1 H1.out.2.1 H5.out.2.1 H5.out.2.2.1 H5.out.2.2.2 hw6;rw [hw6];have hc6:=Bk.all h6.1.1;have hz6:=Bk.fz h6.1.1;have hl6:=Bk.lt h6.1.1;unfold bg at hc6;have H6:=ns h6;clear hw6 h6 hc5 hz5 hl5 hc1 hz1 hch1 hgh1;go_wp2_with fail
 go_end0
 exact⟨rfl,⟨⟨_,_,_,_,_,_,_,_,_,_,H6.out.1⟩,Or.inl H.out.2.1,aA.lt H.out.2.2 H6.out.2.size⟩,H6.out.2⟩
end Go.Proofs.YtcflkcbogofgbaaGreatDoor
