import Derived.Test.YtadcjgopaadfjaaGreatDoorQX
namespace Go.Proofs.YtadcjgopaadfjaaGreatDoor
open Go.RowKit Go.Proofs
def dG.ok:dG→ah→Prop
 | .data n,b=>1≤n∧b.length+n≤2048
 | .tail k,b=>k≤1∧b≠[]
 | .size l,_=>l.length≤65
 | .trail l e ts,_=>l.length≤257∧e≤512∧ts.length≤8
structure lN (b:ah) (p:dG):Prop where
 body:b.length≤2048
 pl:p.ok b
theorem CP{s:ah}:(cC s).length≤s.length:=(List.takeWhile_prefix _).length_le
theorem B7{s:ah}(h:s.length≤6):0≤(fK s).1:=(wS s h).1
theorem Ce{b s b':ah}{p':dG}(hb:b.length≤2048)(h:dM b s=.at b' p'):lN b' p':=by
 unfold dM at h;split at h
 ·cases h
 ·split at h
  ·cases h
  ·split at h
   ·cases h
   ·split at h
    ·injection h with h1 h2;subst h1 h2;exact⟨hb,by simp [dG.ok]⟩
    ·injection h with h1 h2;subst h1 h2
     rename_i g0 _ g1 g2
     have:=B7 (s:=cC s) (by omega);exact⟨hb,⟨by omega,by omega⟩⟩
theorem yD{b s b':ah}{e:Nat}{ts:List aM}{p':dG}(hb:b.length≤2048)(ht:ts.length≤8)(h:cM b s e ts=.at b' p'):lN b' p':=by
 unfold cM at h;split at h
 ·cases h
 ·split at h
  ·cases h
  ·split at h
   ·cases h
   ·injection h with h1 h2;subst h1 h2
    rename_i g
    refine⟨hb,?_⟩;simp only [dG.ok,List.length_nil,List.length_append,List.length_singleton];omega
theorem sj{b s b':ah}(h:dM b s=.whole b'):False:=by
 unfold dM at h;split at h
 ·cases h
 ·split at h
  ·cases h
  ·split at h
   ·cases h
   ·split at h<;>cases h
theorem gu(b:ah)(n:Nat)(c:UInt8):fM b (.data n) c=.at (b++[c]) (if n=1 then .tail 0 else .data (n-1)):=rfl
theorem fG(b l:ah)(c:UInt8):fM b (.size l) c=if c=10 then (match dV l with
 |none=>.bad 400
 |some s=>dM b s) else if 64 < cG l c then .bad 400 else .at b (.size (l++[c])):=rfl
theorem ej(b l:ah)(e:Nat)(ts:List aM)(c:UInt8):fM b (.trail l e ts) c=if c=10 then (match dV l with
 |none=>.bad 400
 |some s=>cM b s e ts) else if 256 < cG l c∨512 < e+cG l c then .bad 431 else .at b (.trail (l++[c]) e ts):=rfl
theorem uP{b b':ah}{p p':dG}{c:UInt8}(ho:lN b p)(h:fM b p c=.at b' p'):lN b' p':=by
 have hb:=ho.body;have ha:=ho.pl
 cases p with
 |data n=>
  obtain⟨h1,h2⟩:=ha;rw [gu] at h;injection h with h3 h4;subst h3 h4;refine⟨by rw [List.length_append,List.length_singleton];omega,?_⟩;split
  ·exact⟨Nat.zero_le _,by simp⟩
  ·refine⟨by omega,?_⟩;rw [List.length_append,List.length_singleton];omega
 |tail k=>
  have e:fM b (.tail k) c=if c=(if k=0 then 13 else 10) then .at b (if k=0 then .tail 1 else .size []) else .bad 400:=rfl;rw [e] at h;by_cases hc:c=(if k=0 then 13 else 10)
  ·rw [if_pos hc] at h;injection h with h3 h4;subst h3 h4;refine⟨hb,?_⟩;by_cases hk:k=0
   ·rw [if_pos hk];exact⟨Nat.le_refl _,ha.2⟩
   ·rw [if_neg hk];exact Nat.zero_le _
  ·rw [if_neg hc] at h
   cases h
 |size l=>
  rw [fG] at h;split at h
  ·split at h
   ·cases h
   ·exact Ce hb h
  ·split at h
   ·cases h
   ·injection h with h3 h4;subst h3 h4
    rename_i g
    exact⟨hb,vZ g⟩
 |trail l e ts=>
  rw [ej] at h;split at h
  ·split at h
   ·cases h
   ·exact yD hb ha.2.2 h
  ·split at h
   ·cases h
   ·injection h with h3 h4;subst h3 h4
    rename_i g
    exact⟨hb,vZ (n:=256) (fun e=>g (Or.inl e)),ha.2.1,ha.2.2⟩
theorem yI{b b':ah}{p:dG}{c:UInt8}(h:fM b p c=.whole b'):b'=b:=by
 cases p with
 |data n=>rw [gu] at h;cases h
 |tail k=>
  have e:fM b (.tail k) c=if c=(if k=0 then 13 else 10) then .at b (if k=0 then .tail 1 else .size []) else .bad 400:=rfl;rw [e] at h;by_cases hc:c=(if k=0 then 13 else 10)
  ·rw [if_pos hc] at h;cases h
  ·rw [if_neg hc] at h;cases h
 |size l=>
  rw [fG] at h;split at h
  ·split at h
   ·cases h
   ·exact(sj h).elim
  ·split at h<;>cases h
 |trail l e ts=>
  rw [ej] at h;split at h
  ·split at h
   ·cases h
   ·unfold cM at h;split at h
    ·injection h with h;exact h.symm
    ·split at h
     ·cases h
     ·split at h<;>cases h
  ·split at h<;>cases h
theorem hU{l:ah}(h:¬l.getLast?=some 13):dV l=none:=by unfold dV;rw [if_neg h]
theorem iM{l:ah}(h:l.getLast?=some 13):dV l=some l.dropLast:=by unfold dV;rw [if_pos h]
def Gz(w:World)(O:Nat→Prop)(g:Nat)(vB:Value)(b:ah)(p:dG):Prop:=∃ vT vL left,ia w O g vB vT vL false 0 left b p.st p.line p.ends p.ts∧p.leftOk left
theorem qH{l:ah}(h:¬l.getLast?=some 13)(h:l.length-1 < l.length):l[l.length-1]≠13:=by
 rename_i g
 intro e;apply g;rw [List.getLast?_eq_getElem?,List.getElem?_eq_getElem h,e]
def eW.wh:eW→Bool
 | .whole _=>true
 |_=>false
def eW.sta:eW→Int
 | .bad s=>s
 |_=>0
theorem xh.bk{w:World}{O:Nat→Prop}{g:Nat}{vB:Value}{q:eW}(h:xh w O g vB q):∃ vT st vL left ends,Bk w g 351 #[vB,vT,.bool q.wh,.int .i64 q.sta,.int .i64 st,vL,.int .i64 left,.int .i64 ends]:=by
 cases q with
 |«at» b p=>obtain⟨a,b,c,h,d⟩:=h;exact⟨_,_,_,_,_,h.bk⟩
 |whole b=>obtain⟨a1,a2,a3,a4,a5,a6,a7,h⟩:=h;exact⟨_,_,_,_,_,h.bk⟩
 |bad s=>obtain⟨a1,a2,a3,a4,a5,a6,a7,a8,h⟩:=h;exact⟨_,_,_,_,_,h.bk⟩
def dG.fresh:dG→Bool
 | .size []=>true
 |_=>false
def nZ(w:World)(g:Nat)(ph sta:Int)(hd ln:Value)(k l:Value)(c x:Value)(vB ch cm:Value):Prop:=Bk w g 134 #[.int .i64 ph,.int .i64 sta,hd,ln,k,l,c,x,vB,ch,cm]
structure fS (w:World) (O:Nat→Prop) (gh:Nat) (vF:Value) (h:Hd):Prop where
 hd:jb w 0 gh vF h
 og:O gh
 of:∀ x,vF.ownBlock=some x→O x
def cn(b:Nat):Value:=.pointer (some ⟨b,0,none⟩)
def fd(h:Hd):Value × Value × Value × Value:=(.int .i64 h.how.kind,.int .i64 h.how.len,.bool h.how.close,.bool h.how.expect)
def DT(w:World)(O:Nat→Prop)(g:Nat):cP→Prop
 | .idle=>∃ hd ln k l c x vB ch cm,nZ w g 0 0 hd ln k l c x vB ch cm
 | .head h L=>∃ gh vF vL k l c x vB ch cm,nZ w g 1 0 (cn gh) vL k l c x vB ch cm∧fS w O gh vF h∧aG w 0 vL L∧(∀ y,vL.ownBlock=some y→O y)
 | .len h B=>∃ gh vF ln vB ch,nZ w g 2 0 (cn gh) ln (fd h).1 (fd h).2.1 (fd h).2.2.1 (fd h).2.2.2 vB ch (.bool !B.isEmpty)∧fS w O gh vF h∧aG w 0 vB B∧(∀ y,vB.ownBlock=some y→O y)
 | .chunk h B p=>∃ gh vF ln vB gr Or,nZ w g 2 0 (cn gh) ln (fd h).1 (fd h).2.1 (fd h).2.2.1 (fd h).2.2.2 vB (cn gr) (.bool !(B.isEmpty&&p.fresh))∧fS w O gh vF h∧Gz w Or gr vB B p∧(∀ y,Or y→O y)∧¬Or g∧¬Or gh∧(∀ y,vF.ownBlock=some y→¬Or y)
 | .whole h B=>∃ gh vF ln vB ch cm,nZ w g 3 0 (cn gh) ln (fd h).1 (fd h).2.1 (fd h).2.2.1 (fd h).2.2.2 vB ch cm∧fS w O gh vF h∧aG w 0 vB B∧(∀ y,vB.ownBlock=some y→O y)
 | .bad s=>∃ hd ln k l c x vB ch cm,nZ w g 4 s hd ln k l c x vB ch cm
structure jk (w:World) (O:Nat→Prop) (g:Nat) (s:cP):Prop where
 q:DT w O g s
 og:O g
 lt:∀ x,O x→x < w.heap.size
def kh(w:World)(O:Nat→Prop)(g:Nat)(s:cP)(e:Ending)(w':World):Prop:=e=.returned (.tuple #[])∧jk w' (be O w w') g s∧Sm O w w'
section
variable {w w':World} {O S:Nat→Prop} {g gh:Nat} {vF:Value} {h:Hd}
theorem fS.sm(k:fS w O gh vF h)(hs:Sm S w w')(h1:¬S gh)(h2:∀ x,vF.ownBlock=some x→¬S x):fS w' O gh vF h:=
 ⟨cu.sm k.hd hs h1 h2,k.og,k.of⟩
theorem fS.no(k:fS w O gh vF h)(hs:Sm No w w'):fS w' O gh vF h:=k.sm hs (fun e=>e) (fun _ _ e=>e)
theorem fS.imp{P:Nat→Prop}(k:fS w O gh vF h)(hi:∀ x,O x→P x):fS w P gh vF h:=⟨k.hd,hi _ k.og,fun x e=>hi x (k.of x e)⟩
theorem tO{w:World}{g g':Nat}{t t':TypeId}{cs cs':Array Value}(h:Bk w g t cs)(h':Bk w g' t' cs')(ht:t≠t'):g≠g':=by
 rintro rfl;unfold Bk at h h';rw [h] at h';injection h' with h';injection h' with _ h';exact ht h'
theorem fS.own{t:TypeId}{cs:Array Value}(k:fS w O gh vF h)(hb:Bk w g t cs)(ht:t=134)(hs:Sm (fun x=>x=g) w w'):fS w' O gh vF h:=by
 subst ht;refine k.sm hs (fun e=>tO k.hd.bk hb (by decide) e) (fun x e e2=> ?_);subst e2;exact am k.hd.2.1 hb (by decide) e
end
theorem DT.imp{w:World}{O P:Nat→Prop}{g:Nat}{s:cP}(h:DT w O g s)(hi:∀ x,O x→P x):DT w P g s:=by
 cases s with
 |idle=>exact h
 |head h' L=>obtain⟨gh,vF,vL,k,l,c,x,vB,ch,cm,h1,h2,h3,h4⟩:=h;exact⟨gh,vF,vL,k,l,c,x,vB,ch,cm,h1,h2.imp hi,h3,fun y e=>hi y (h4 y e)⟩
 |len h' B=>obtain⟨gh,vF,ln,vB,ch,h1,h2,h3,h4⟩:=h;exact⟨gh,vF,ln,vB,ch,h1,h2.imp hi,h3,fun y e=>hi y (h4 y e)⟩
 |chunk h' B p=>obtain⟨gh,vF,ln,vB,gr,Or',h1,h2,h3,h4,h5⟩:=h;exact⟨gh,vF,ln,vB,gr,Or',h1,h2.imp hi,h3,fun y e=>hi y (h4 y e),h5⟩
 |whole h' B=>obtain⟨gh,vF,ln,vB,ch,cm,h1,h2,h3,h4⟩:=h;exact⟨gh,vF,ln,vB,ch,cm,h1,h2.imp hi,h3,fun y e=>hi y (h4 y e)⟩
 |bad s=>exact h
theorem kh.up{w w1 w2:World}{O:Nat→Prop}{g:Nat}{s:cP}{e:Ending}(h:kh w1 (be O w w1) g s e w2)(lt:∀ x,O x→x < w.heap.size)(og:O g)(hs:Sm O w w1):kh w O g s e w2:=
 ⟨h.1,⟨h.2.1.q.imp (be.up hs.size h.2.2.size),Or.inl og,be.lt lt (Nat.le_trans hs.size h.2.2.size)⟩,hs.up h.2.2⟩
theorem jk.badOf{w w1:World}{O:Nat→Prop}{g:Nat}{s:Int}{hd ln k l c x vB ch cm:Value}(og:O g)(lt:∀ x,O x→x < w.heap.size)(hs:Sm O w w1)(hb:nZ w1 g 4 s hd ln k l c x vB ch cm):kh w O g (.bad s) (.returned (.tuple #[])) w1:=
 ⟨rfl,⟨⟨_,_,_,_,_,_,_,_,_,hb⟩,Or.inl og,be.lt lt hs.size⟩,hs⟩
theorem C2{h:Hd}(hk:h.how.kind=0∨(h.how.kind=1∧h.how.len=0)):dZ h=.whole h []:=by unfold dZ;rw [if_pos hk]
theorem Bv{h:Hd}(hk:¬(h.how.kind=0∨(h.how.kind=1∧h.how.len=0)))(h1:h.how.kind=1):dZ h=.len h []:=by unfold dZ;rw [if_neg hk,if_pos h1]
theorem BL{h:Hd}(hk:¬(h.how.kind=0∨(h.how.kind=1∧h.how.len=0)))(h1:¬h.how.kind=1):dZ h=.chunk h [] (.size []):=by unfold dZ;rw [if_neg hk,if_neg h1]
theorem be.le{O:Nat→Prop}{w w':World}(x:Nat)(h:O x):be O w w' x:=Or.inl h
theorem xh.slice{w:World}{O:Nat→Prop}{g:Nat}{vB:Value}{q:eW}(h:xh w O g vB q):∃ A n c,vB=.slice A n c:=by
 cases q with
 |«at» b p=>obtain⟨a,b,c,h,d⟩:=h;obtain⟨A,c,hv,_⟩:=h.body.slice;exact⟨A,_,c,hv⟩
 |whole b=>obtain⟨a1,a2,a3,a4,a5,a6,a7,h⟩:=h;obtain⟨A,c,hv,_⟩:=h.body.slice;exact⟨A,_,c,hv⟩
 |bad s=>obtain⟨a1,a2,a3,a4,a5,a6,a7,a8,h⟩:=h;obtain⟨A,c,hv,_⟩:=h.body.slice;exact⟨A,_,c,hv⟩
theorem xh.sm{w w':World}{O S:Nat→Prop}{g:Nat}{vB:Value}{q:eW}(h:xh w O g vB q)(hs:Sm S w w')(hS:∀ x,O x→¬S x):xh w' O g vB q:=by
 cases q with
 |«at» b p=>obtain⟨a,b,c,h,d⟩:=h;exact⟨a,b,c,h.sm hs hS,d⟩
 |whole b=>obtain⟨a1,a2,a3,a4,a5,a6,a7,h⟩:=h;exact⟨a1,a2,a3,a4,a5,a6,a7,h.sm hs hS⟩
 |bad s=>obtain⟨a1,a2,a3,a4,a5,a6,a7,a8,h⟩:=h;exact⟨a1,a2,a3,a4,a5,a6,a7,a8,h.sm hs hS⟩
theorem fS.row{w w':World}{O:Nat→Prop}{gh B:Nat}{vF v:Value}{h:Hd}{l:ah}(k:fS w O gh vF h)(hv:aG w B v l)(hs:Sm (fun x=>v.ownBlock=some x) w w'):fS w' O gh vF h:=
 k.sm hs (fun e=>am hv k.hd.bk (by decide) e) (fun x e e2=>by
  obtain⟨c1,h1⟩:=az hv e2;obtain⟨c2,h2⟩:=az k.hd.2.1 e;rw [h1] at h2;injection h2 with h2;injection h2 with _ h2;exact absurd h2 (by decide))
structure wm (h:Hd) (L:ah):Prop where
 ok:kP h
 line:L.length≤257
 whole:h.whole=false
 status:h.status=0
theorem kh.head {w w1 w5 w6:World} {O:Nat→Prop} {g gh:Nat} {vF vL v':Value} {h:Hd} {L:ah} {c:UInt8} {k l cl x vB ch cm:Value}
 (hK:nZ w1 g 1 0 (cn gh) vL k l cl x vB ch cm) (hH:fS w1 (be O w w1) gh vF h) (hL:aG w1 0 vL L) (hO:∀ y,vL.ownBlock=some y→be O w w1 y) (og:O g) (hs1:Sm O w w1)
 (hO5:aG w5 0 v' (L++[c])) (hs5:Sm (fun b=>vL.ownBlock=some b) w1 w5) (hv5:∀ b,v'.ownBlock=some b→vL.ownBlock=some b∨w1.heap.size≤b) (hw:w5.setCell ⟨g,3,none⟩ v'=w6):
 (nZ w6 g 1 0 (cn gh) v' k l cl x vB ch cm∧fS w6 (be O w w6) gh vF h∧aG w6 0 v' (L++[c])∧(∀ y,v'.ownBlock=some y→be O w w6 y))∧Sm O w w6:=by
 have hnL:vL.ownBlock≠some g:=am hL hK (by decide);have hK5:=Bk.sm hK hs5 hnL;have hs6:Sm (fun y=>y=g) w5 w6:=by rw [←hw];exact(Sm.refl _ w5).set1 3 v'
 have up:∀ y,be O w w1 y→be O w w6 y:=fun y e=>e.elim Or.inl (fun e=>Or.inr ⟨e.1,Nat.lt_of_lt_of_le e.2 (Nat.le_trans hs5.size hs6.size)⟩);have hsw:Sm O w w6:=by
  have e2:Sm (be O w w1) w1 w5:=hs5.mono (fun y _ e=>hO y e);exact((hs1.up e2).trans hs6 (fun y _ e=>e ▸ og))
 refine⟨⟨by rw [←hw];exact(Bk.set hK5 3 v').eq rfl,((hH.row hL hs5).own hK5 rfl hs6).imp up,ae hO5 hs6 (fun x e e2=>am hO5 hK5 (by decide) (by rw [e,e2])),fun y e=> ?_⟩,hsw⟩;exact(hv5 y e).elim (fun e2=>up y (hO y e2)) (fun e2=>Or.inr ⟨Nat.le_trans hs1.size e2,Nat.lt_of_lt_of_le (World.ownsRow.lt hO5 y e).2 hs6.size⟩)
end Go.Proofs.YtadcjgopaadfjaaGreatDoor
