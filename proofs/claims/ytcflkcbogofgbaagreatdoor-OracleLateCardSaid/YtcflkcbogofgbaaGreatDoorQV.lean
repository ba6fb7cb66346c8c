import Derived.Test.YtcflkcbogofgbaaGreatDoorQPrsU
set_option maxHeartbeats 16000000
set_option maxRecDepth 100000
namespace Go.Proofs.YtcflkcbogofgbaaGreatDoor
open Go.RowKit Go.Proofs
def df.ok:df→af→Prop
 | .data n,b=>1≤n∧b.length+n≤2048
 | .tail k,b=>k≤1∧b≠[]
 | .size l,_=>l.length≤65
 | .trail l e ts,_=>l.length≤257∧e≤512∧ts.length≤8
structure jK (b:af) (p:df):Prop where
 body:b.length≤2048
 pl:p.ok b
theorem Ec{s:af}:(bX s).length≤s.length:=(List.takeWhile_prefix _).length_le
theorem Dp{s:af}(h:s.length≤6):0≤(eO s).1:=(rk s h).1
theorem Dt{b s b':af}{p':df}(hb:b.length≤2048)(h:cP b s=.at b' p'):jK b' p':=by
 unfold cP at h;split at h
 ·cases h
 ·split at h
  ·cases h
  ·split at h
   ·cases h
   ·split at h
    ·injection h with h1 h2;subst h1 h2;exact⟨hb,by simp [df.ok]⟩
    ·injection h with h1 h2;subst h1 h2
     rename_i g0 _ g1 g2
     have:=Dp (s:=bX s) (by omega);exact⟨hb,⟨by omega,by omega⟩⟩
theorem zK{b s b':af}{e:Nat}{ts:List aJ}{p':df}(hb:b.length≤2048)(ht:ts.length≤8)(h:bN b s e ts=.at b' p'):jK b' p':=by
 unfold bN at h;split at h
 ·cases h
 ·split at h
  ·cases h
  ·split at h
   ·cases h
   ·injection h with h1 h2;subst h1 h2
    rename_i g
    refine⟨hb,?_⟩;simp only [df.ok,List.length_nil,List.length_append,List.length_singleton];omega
theorem tW{b s b':af}(h:cP b s=.whole b'):False:=by
 unfold cP at h;split at h
 ·cases h
 ·split at h
  ·cases h
  ·split at h
   ·cases h
   ·split at h<;>cases h
theorem dG(b:af)(n:Nat)(c:UInt8):db b (.data n) c=.at (b++[c]) (if n=1 then .tail 0 else .data (n-1)):=rfl
theorem cj(b l:af)(c:UInt8):db b (.size l) c=if c=10 then (match eJ l with
 |none=>.bad 400
 |some s=>cP b s) else if 64 < bO l c then .bad 400 else .at b (.size (l++[c])):=rfl
theorem bB(b l:af)(e:Nat)(ts:List aJ)(c:UInt8):db b (.trail l e ts) c=if c=10 then (match eJ l with
 |none=>.bad 400
 |some s=>bN b s e ts) else if 256 < bO l c∨512 < e+bO l c then .bad 431 else .at b (.trail (l++[c]) e ts):=rfl
theorem vD{b b':af}{p p':df}{c:UInt8}(ho:jK b p)(h:db b p c=.at b' p'):jK b' p':=by
 have hb:=ho.body;have ha:=ho.pl
 cases p with
 |data n=>
  obtain⟨h1,h2⟩:=ha;rw [dG] at h;injection h with h3 h4;subst h3 h4;refine⟨by rw [List.length_append,List.length_singleton];omega,?_⟩;split
  ·exact⟨Nat.zero_le _,by simp⟩
  ·refine⟨by omega,?_⟩;rw [List.length_append,List.length_singleton];omega
 |tail k=>
  have e:db b (.tail k) c=if c=(if k=0 then 13 else 10) then .at b (if k=0 then .tail 1 else .size []) else .bad 400:=rfl;rw [e] at h;by_cases hc:c=(if k=0 then 13 else 10)
  ·rw [if_pos hc] at h;injection h with h3 h4;subst h3 h4;refine⟨hb,?_⟩;by_cases hk:k=0
   ·rw [if_pos hk];exact⟨Nat.le_refl _,ha.2⟩
   ·rw [if_neg hk];exact Nat.zero_le _
  ·rw [if_neg hc] at h
   cases h
 |size l=>
  rw [cj] at h;split at h
  ·split at h
   ·cases h
   ·exact Dt hb h
  ·split at h
   ·cases h
   ·injection h with h3 h4;subst h3 h4
    rename_i g
    exact⟨hb,vj g⟩
 |trail l e ts=>
  rw [bB] at h;split at h
  ·split at h
   ·cases h
   ·exact zK hb ha.2.2 h
  ·split at h
   ·cases h
   ·injection h with h3 h4;subst h3 h4
    rename_i g
    exact⟨hb,vj (n:=256) (fun e=>g (Or.inl e)),ha.2.1,ha.2.2⟩
theorem BP{b b':af}{p:df}{c:UInt8}(h:db b p c=.whole b'):b'=b:=by
 cases p with
 |data n=>rw [dG] at h;cases h
 |tail k=>
  have e:db b (.tail k) c=if c=(if k=0 then 13 else 10) then .at b (if k=0 then .tail 1 else .size []) else .bad 400:=rfl;rw [e] at h;by_cases hc:c=(if k=0 then 13 else 10)
  ·rw [if_pos hc] at h;cases h
  ·rw [if_neg hc] at h;cases h
 |size l=>
  rw [cj] at h;split at h
  ·split at h
   ·cases h
   ·exact(tW h).elim
  ·split at h<;>cases h
 |trail l e ts=>
  rw [bB] at h;split at h
  ·split at h
   ·cases h
   ·unfold bN at h;split at h
    ·injection h with h;exact h.symm
    ·split at h
     ·cases h
     ·split at h<;>cases h
  ·split at h<;>cases h
theorem eC{l:af}(h:¬l.getLast?=some 13):eJ l=none:=by unfold eJ;rw [if_neg h]
theorem fp{l:af}(h:l.getLast?=some 13):eJ l=some l.dropLast:=by unfold eJ;rw [if_pos h]
def Cz(w:World)(O:Nat→Prop)(g:Nat)(vB:Value)(b:af)(p:df):Prop:=∃ vT vL left,dU w O g vB vT vL false 0 left b p.st p.line p.ends p.ts∧p.leftOk left
theorem ju{l:af}(h:¬l.getLast?=some 13)(h:l.length-1 < l.length):l[l.length-1]≠13:=by
 rename_i g
 intro e;apply g;rw [List.getLast?_eq_getElem?,List.getElem?_eq_getElem h,e]
theorem xF(w:World)(O:Nat→Prop)(g:Nat)(vB:Value)(b:af)(p:df)(c:UInt8)(hI:Cz w O g vB b p)(ho:jK b p):
 Calls Tryz.prog 171 #[.pointer (some ⟨g,0,none⟩),.int .u8 c.toNat] w (aP w O g (db b p c)):=by
 obtain⟨vT,vL,left,hI,hleft⟩:=hI;have hb:=ho.body;have ha:=ho.pl
 cases p with
 |data n=>
  have e:left=n:=hleft;subst e;by_cases h1:n=1
  ·rw [show db b (.data n) c=.at (b++[c]) (.tail 0) from by rw [dG];rw [if_pos h1]];exact CX w O g vB vT vL b c n (by omega) hI (by omega) h1
  ·rw [show db b (.data n) c=.at (b++[c]) (.data (n-1)) from by rw [dG];rw [if_neg h1]];exact DB w O g vB vT vL b c n (by have:=ha.2;omega) hI (by omega) (by have:=ha.1;omega)
 |tail k=>
  have hk:k≤1:=ha.1
  match k,hk,hI with
  |0,_,hI=>
   by_cases hc:c=13
   ·rw [show db b (.tail 0) c=.at b (.tail 1) from if_pos hc];exact A8 w O g vB vT vL left b c hI hc
   ·rw [show db b (.tail 0) c=.bad 400 from if_neg hc];exact yP w O g vB vT vL left b c hI hc
  |1,_,hI=>
   by_cases hc:c=10
   ·rw [show db b (.tail 1) c=.at b (.size []) from if_pos hc];exact yS w O g vB vT vL left b c hI hc
   ·rw [show db b (.tail 1) c=.bad 400 from if_neg hc];exact Aw w O g vB vT vL left b c hI hc
 |size l=>
  have hl:l.length≤65:=ha;by_cases h10:c=10
  ·by_cases h13:l.getLast?=some 13
   ·rw [show db b (.size l) c=cP b l.dropLast from by rw [cj];rw [if_pos h10,fp h13]];exact xk w O g vB vT vL left b c l hI hb (by omega) h13 h10
   ·rw [show db b (.size l) c=.bad 400 from by rw [cj];rw [if_pos h10,eC h13]];by_cases h0:l.length=0
    ·have:=List.eq_nil_of_length_eq_zero h0;subst this;exact wg w O g vB vT vL left b c hI h10
    ·exact wV w O g vB vT vL left b c l hI (by omega) (by omega) (ju h13) h10
  ·by_cases h13:c=13
   ·have e:bO l c=l.length:=by unfold bO;rw [if_pos h13]
    by_cases hk:64 < l.length
    ·rw [show db b (.size l) c=.bad 400 from by rw [cj];rw [if_neg h10,e,if_pos hk]];exact wR w O g vB vT vL left b c l hI (by omega) h13 hk
    ·rw [show db b (.size l) c=.at b (.size (l++[c])) from by rw [cj];rw [if_neg h10,e,if_neg hk]];exact wK w O g vB vT vL left b c l hI (by omega) h13 hk
   ·have e:bO l c=l.length+1:=by unfold bO;rw [if_neg h13]
    by_cases hk:64 < l.length+1
    ·rw [show db b (.size l) c=.bad 400 from by rw [cj];rw [if_neg h10,e,if_pos hk]];exact xI w O g vB vT vL left b c l hI (by omega) h10 h13 hk
    ·rw [show db b (.size l) c=.at b (.size (l++[c])) from by rw [cj];rw [if_neg h10,e,if_neg hk]];exact wZ w O g vB vT vL left b c l hI (by omega) h10 h13 hk
 |trail l e0 ts=>
  obtain⟨hl,he,ht⟩:=ha;by_cases h10:c=10
  ·by_cases h13:l.getLast?=some 13
   ·rw [show db b (.trail l e0 ts) c=bN b l.dropLast e0 ts from by rw [bB];rw [if_pos h10,fp h13]];exact tH w O g vB vT vL left b c e0 ts l hI he ht (by omega) h13 h10
   ·rw [show db b (.trail l e0 ts) c=.bad 400 from by rw [bB];rw [if_pos h10,eC h13]];by_cases h0:l.length=0
    ·have:=List.eq_nil_of_length_eq_zero h0;subst this;exact tv w O g vB vT vL left b c e0 ts hI h10
    ·exact sM w O g vB vT vL left b c e0 ts l hI (by omega) (by omega) (ju h13) h10
  ·by_cases h13:c=13
   ·have e:bO l c=l.length:=by unfold bO;rw [if_pos h13]
    by_cases hk:256 < l.length
    ·rw [show db b (.trail l e0 ts) c=.bad 431 from by rw [bB];rw [if_neg h10,e,if_pos (Or.inl hk)]];exact sy w O g vB vT vL left b c e0 ts l hI (by omega) h13 hk
    ·by_cases hk2:512 < e0+l.length
     ·rw [show db b (.trail l e0 ts) c=.bad 431 from by rw [bB];rw [if_neg h10,e,if_pos (Or.inr hk2)]];exact tF w O g vB vT vL left b c e0 ts l hI (by omega) he h13 hk hk2
     ·rw [show db b (.trail l e0 ts) c=.at b (.trail (l++[c]) e0 ts) from by rw [bB];rw [if_neg h10,e,if_neg (fun h=>h.elim hk hk2)]];exact tA w O g vB vT vL left b c e0 ts l hI (by omega) he h13 hk hk2
   ·have e:bO l c=l.length+1:=by unfold bO;rw [if_neg h13]
    by_cases hk:256 < l.length+1
    ·rw [show db b (.trail l e0 ts) c=.bad 431 from by rw [bB];rw [if_neg h10,e,if_pos (Or.inl hk)]];exact ug w O g vB vT vL left b c e0 ts l hI (by omega) h10 h13 hk
    ·by_cases hk2:512 < e0+(l.length+1)
     ·rw [show db b (.trail l e0 ts) c=.bad 431 from by rw [bB];rw [if_neg h10,e,if_pos (Or.inr hk2)]];exact tK w O g vB vT vL left b c e0 ts l hI (by omega) he h10 h13 hk hk2
     ·rw [show db b (.trail l e0 ts) c=.at b (.trail (l++[c]) e0 ts) from by rw [bB];rw [if_neg h10,e,if_neg (fun h=>h.elim hk hk2)]];exact sP w O g vB vT vL left b c e0 ts l hI (by omega) he h10 h13 hk hk2
def ej.wh:ej→Bool
 | .whole _=>true
 |_=>false
def ej.sta:ej→Int
 | .bad s=>s
 |_=>0
theorem vg.bk{w:World}{O:Nat→Prop}{g:Nat}{vB:Value}{q:ej}(h:vg w O g vB q):∃ vT st vL left ends,Bk w g 200 #[vB,vT,.bool q.wh,.int .i64 q.sta,.int .i64 st,vL,.int .i64 left,.int .i64 ends]:=by
 cases q with
 |«at» b p=>obtain⟨a,b,c,h,d⟩:=h;exact⟨_,_,_,_,_,h.bk⟩
 |whole b=>obtain⟨a1,a2,a3,a4,a5,a6,a7,h⟩:=h;exact⟨_,_,_,_,_,h.bk⟩
 |bad s=>obtain⟨a1,a2,a3,a4,a5,a6,a7,a8,h⟩:=h;exact⟨_,_,_,_,_,h.bk⟩
def Ar(w:World)(O:Nat→Prop)(g:Nat)(q:ej)(e:Ending)(w':World):Prop:=
 ∃ vB,e=.returned (.tuple #[.int .i64 1,.bool q.wh,.int .i64 q.sta])∧vg w' (aA O w w') g vB q∧Sm O w w'
def IB(w:World)(O:Nat→Prop)(g:Nat)(q:ej)(i:Value)(wr:World):Prop:=
 (i=.int .i64 0∧wr=w)∨(i=.int .i64 1∧∃ vB',vg wr (aA O w wr) g vB' q∧Sm O w wr)
theorem ur(w:World)(O:Nat→Prop)(g:Nat)(vB:Value)(b:af)(p:df)(c:UInt8)(bb cap:Nat)(hI:Cz w O g vB b p)(ho:jK b p)(hbb:bb < w.heap.size)(hc:w.cell? ⟨bb,0,none⟩=some (.int .u8 c.toNat)):
 Calls Tryz.prog 125 #[.pointer (some ⟨g,0,none⟩),.slice (some ⟨bb,0,none⟩) 1 cap] w (Ar w O g (db b p c)):=by
 have HO:=ns (xF w O g vB b p c hI ho);obtain⟨vT,vL,left,hI,_⟩:=hI;have HLt:=ns hI.lt;obtain⟨q,hq⟩:=Iu (db b p c);rw [hq] at HO ⊢;have hgl:=hI.bk.lt;have hcg:=hI.bk.all;have hzg:=hI.bk.fz;clear hI hq ho;go_in;go_wp2_with fail
 go_loopw [7] (fun i wr=>IB w O g q i wr) (fun i _=>1-(intOf i).toNat)
 case atStart=>exact Or.inl ⟨rfl,rfl⟩
 case round=>
  rcases hrel with ⟨rfl,rfl⟩|⟨rfl,vB',hQ,hsm⟩
  ·go_wp2_with fail;refine HO.out.mono ?_;rintro e w2 ⟨v2,rfl,h2⟩;have H2:=ns h2;clear h2 hcg hzg;go_wp2_with fail;exact⟨Or.inr ⟨rfl,v2,H2.out⟩,by decide⟩
  ·obtain⟨vT2,st2,vL2,left2,ends2,hb2⟩:=hQ.bk;have HQ:=ns (BT hQ hsm);clear hQ hsm hcg hzg;have hgl2:=hb2.lt;have hcg:=hb2.all;have hzg:=hb2.fz;clear hb2;go_wp2_with fail;go_quiet (fail);go_wp2_with fail;exact bodyPost_ret (v:=.tuple #[.int .i64 1,.bool q.wh,.int .i64 q.sta]) (by simp [results,Tryz.results125,go_sem]) rfl ⟨vB',rfl,HQ.out.1.after HLt.out HQ.out.2.size ((Sm.refl No _).drewN _),HQ.out.2.drewN _⟩
def df.fresh:df→Bool
 | .size []=>true
 |_=>false
def eM(w:World)(g:Nat)(ph sta:Int)(hd ln:Value)(k l:Value)(c x:Value)(vB ch cm:Value):Prop:=Bk w g 69 #[.int .i64 ph,.int .i64 sta,hd,ln,k,l,c,x,vB,ch,cm]
structure fd (w:World) (O:Nat→Prop) (gh:Nat) (vF:Value) (h:Hd):Prop where
 hd:dm w 0 gh vF h
 og:O gh
 of:∀ x,vF.ownBlock=some x→O x
def bg(b:Nat):Value:=.pointer (some ⟨b,0,none⟩)
def aF(h:Hd):Value × Value × Value × Value:=(.int .i64 h.how.kind,.int .i64 h.how.len,.bool h.how.close,.bool h.how.expect)
def EX(w:World)(O:Nat→Prop)(g:Nat):cu→Prop
 | .idle=>∃ hd ln k l c x vB ch cm,eM w g 0 0 hd ln k l c x vB ch cm
 | .head h L=>∃ gh vF vL k l c x vB ch cm,eM w g 1 0 (bg gh) vL k l c x vB ch cm∧fd w O gh vF h∧ay w 0 vL L∧(∀ y,vL.ownBlock=some y→O y)
 | .len h B=>∃ gh vF ln vB ch,eM w g 2 0 (bg gh) ln (aF h).1 (aF h).2.1 (aF h).2.2.1 (aF h).2.2.2 vB ch (.bool !B.isEmpty)∧fd w O gh vF h∧ay w 0 vB B∧(∀ y,vB.ownBlock=some y→O y)
 | .chunk h B p=>∃ gh vF ln vB gr Or,eM w g 2 0 (bg gh) ln (aF h).1 (aF h).2.1 (aF h).2.2.1 (aF h).2.2.2 vB (bg gr) (.bool !(B.isEmpty&&p.fresh))∧fd w O gh vF h∧Cz w Or gr vB B p∧(∀ y,Or y→O y)∧¬Or g∧¬Or gh∧(∀ y,vF.ownBlock=some y→¬Or y)
 | .whole h B=>∃ gh vF ln vB ch cm,eM w g 3 0 (bg gh) ln (aF h).1 (aF h).2.1 (aF h).2.2.1 (aF h).2.2.2 vB ch cm∧fd w O gh vF h∧ay w 0 vB B∧(∀ y,vB.ownBlock=some y→O y)
 | .bad s=>∃ hd ln k l c x vB ch cm,eM w g 4 s hd ln k l c x vB ch cm
structure bn (w:World) (O:Nat→Prop) (g:Nat) (s:cu):Prop where
 q:EX w O g s
 og:O g
 lt:∀ x,O x→x < w.heap.size
def av(w:World)(O:Nat→Prop)(g:Nat)(s:cu)(e:Ending)(w':World):Prop:=e=.returned (.tuple #[])∧bn w' (aA O w w') g s∧Sm O w w'
section
variable {w w':World} {O S:Nat→Prop} {g gh:Nat} {vF:Value} {h:Hd}
theorem fd.sm(k:fd w O gh vF h)(hs:Sm S w w')(h1:¬S gh)(h2:∀ x,vF.ownBlock=some x→¬S x):fd w' O gh vF h:=
 ⟨bi.sm k.hd hs h1 h2,k.og,k.of⟩
theorem fd.no(k:fd w O gh vF h)(hs:Sm No w w'):fd w' O gh vF h:=k.sm hs (fun e=>e) (fun _ _ e=>e)
theorem fd.imp{P:Nat→Prop}(k:fd w O gh vF h)(hi:∀ x,O x→P x):fd w P gh vF h:=⟨k.hd,hi _ k.og,fun x e=>hi x (k.of x e)⟩
theorem mx{w:World}{g g':Nat}{t t':TypeId}{cs cs':Array Value}(h:Bk w g t cs)(h':Bk w g' t' cs')(ht:t≠t'):g≠g':=by
 rintro rfl;unfold Bk at h h';rw [h] at h';injection h' with h';injection h' with _ h';exact ht h'
theorem fd.own{t:TypeId}{cs:Array Value}(k:fd w O gh vF h)(hb:Bk w g t cs)(ht:t=69)(hs:Sm (fun x=>x=g) w w'):fd w' O gh vF h:=by
 subst ht;refine k.sm hs (fun e=>mx k.hd.bk hb (by decide) e) (fun x e e2=> ?_);subst e2;exact ah k.hd.2.1 hb (by decide) e
end
theorem EX.imp{w:World}{O P:Nat→Prop}{g:Nat}{s:cu}(h:EX w O g s)(hi:∀ x,O x→P x):EX w P g s:=by
 cases s with
 |idle=>exact h
 |head h' L=>obtain⟨gh,vF,vL,k,l,c,x,vB,ch,cm,h1,h2,h3,h4⟩:=h;exact⟨gh,vF,vL,k,l,c,x,vB,ch,cm,h1,h2.imp hi,h3,fun y e=>hi y (h4 y e)⟩
 |len h' B=>obtain⟨gh,vF,ln,vB,ch,h1,h2,h3,h4⟩:=h;exact⟨gh,vF,ln,vB,ch,h1,h2.imp hi,h3,fun y e=>hi y (h4 y e)⟩
 |chunk h' B p=>obtain⟨gh,vF,ln,vB,gr,Or',h1,h2,h3,h4,h5⟩:=h;exact⟨gh,vF,ln,vB,gr,Or',h1,h2.imp hi,h3,fun y e=>hi y (h4 y e),h5⟩
 |whole h' B=>obtain⟨gh,vF,ln,vB,ch,cm,h1,h2,h3,h4⟩:=h;exact⟨gh,vF,ln,vB,ch,cm,h1,h2.imp hi,h3,fun y e=>hi y (h4 y e)⟩
 |bad s=>exact h
theorem av.up{w w1 w2:World}{O:Nat→Prop}{g:Nat}{s:cu}{e:Ending}(h:av w1 (aA O w w1) g s e w2)(lt:∀ x,O x→x < w.heap.size)(og:O g)(hs:Sm O w w1):av w O g s e w2:=
 ⟨h.1,⟨h.2.1.q.imp (aA.up hs.size h.2.2.size),Or.inl og,aA.lt lt (Nat.le_trans hs.size h.2.2.size)⟩,hs.up h.2.2⟩
theorem bn.badOf{w w1:World}{O:Nat→Prop}{g:Nat}{s:Int}{hd ln k l c x vB ch cm:Value}(og:O g)(lt:∀ x,O x→x < w.heap.size)(hs:Sm O w w1)(hb:eM w1 g 4 s hd ln k l c x vB ch cm):av w O g (.bad s) (.returned (.tuple #[])) w1:=
 ⟨rfl,⟨⟨_,_,_,_,_,_,_,_,_,hb⟩,Or.inl og,aA.lt lt hs.size⟩,hs⟩
theorem ep(w:World)(O:Nat→Prop)(g:Nat)(s:Int){ph sta:Int}{hd ln k l c x vB ch cm:Value}(hb:eM w g ph sta hd ln k l c x vB ch cm)(og:O g)(lt:∀ x,O x→x < w.heap.size):
 Calls Tryz.prog 78 #[.pointer (some ⟨g,0,none⟩),.int .i64 s] w (av w O g (.bad s)):=by
 have hgl:=Bk.lt hb;have hc:=Bk.all hb;have hz:=Bk.fz hb;have HB:=ns hb;have HL:=ns (BT og lt);clear hb og lt;go_in;go_wp2_with fail
 go_end0
 exact bn.badOf HL.out.1 HL.out.2 ((((Sm.refl O w).setS HL.out.1 0 _)).setS HL.out.1 1 _) (((Bk.set HB.out 0 (.int .i64 4)).set 1 (.int .i64 s)).eq rfl)
theorem vc{h:Hd}(hk:h.how.kind=0∨(h.how.kind=1∧h.how.len=0)):cz h=.whole h []:=by unfold cz;rw [if_pos hk]
theorem sA{h:Hd}(hk:¬(h.how.kind=0∨(h.how.kind=1∧h.how.len=0)))(h1:h.how.kind=1):cz h=.len h []:=by unfold cz;rw [if_neg hk,if_pos h1]
theorem tj{h:Hd}(hk:¬(h.how.kind=0∨(h.how.kind=1∧h.how.len=0)))(h1:¬h.how.kind=1):cz h=.chunk h [] (.size []):=by unfold cz;rw [if_neg hk,if_neg h1]
theorem sL(w:World)(O:Nat→Prop)(g gh:Nat)(vF:Value)(h:Hd){k l c x vB ch cm:Value}(hb:eM w g 1 0 (bg gh) (.slice none 0 0) k l c x vB ch cm)(hh:fd w O gh vF h)(og:O g)(lt:∀ x,O x→x < w.heap.size):
 Calls Tryz.prog 80 #[.pointer (some ⟨g,0,none⟩)] w (av w O g (cz h)):=by
 have hgl:=Bk.lt hb;have hc:=Bk.all hb;have hz:=Bk.fz hb;have hgl2:=hh.hd.bk.lt;have hc2:=hh.hd.bk.all;have hne:gh≠g:=mx hh.hd.bk hb (by decide);have HB:=ns hb;have HL:=ns (BT hh (BT og lt));clear hb hh og lt;unfold bg at hc;go_in;go_upto_region 5 with fail;obtain⟨w1,hw1⟩:=Iu (((((((((w.setCell ⟨g,4,none⟩ (.int .i64 h.how.kind)).setCell ⟨g,5,none⟩ (.int .i64 h.how.len)).setCell ⟨g,6,none⟩ (.bool h.how.close)).setCell ⟨g,7,none⟩ (.bool h.how.expect)).setCell ⟨g,8,none⟩ (.slice none 0 0)).setCell ⟨g,10,none⟩ (.bool false)).setCell ⟨g,9,none⟩ (.pointer (some ⟨w.heap.size,0,none⟩))).setCell ⟨g,0,none⟩ (.int .i64 2)));have hs1:Sm (fun y=>y=g) w w1:=by rw [←hw1];exact((((((((Sm.refl _ w).set1 4 (.int .i64 h.how.kind)).set1 5 (.int .i64 h.how.len)).set1 6 (.bool h.how.close)).set1 7 (.bool h.how.expect)).set1 8 (.slice none 0 0)).set1 10 (.bool false)).set1 9 (bg w.heap.size)).set1 0 (.int .i64 2)
 have hb1:eM w1 g 2 0 (bg gh) (.slice none 0 0) (.int .i64 h.how.kind) (.int .i64 h.how.len) (.bool h.how.close) (.bool h.how.expect) (.slice none 0 0) (bg w.heap.size) (.bool false):=by
  rw [←hw1];exact((((((((Bk.set HB.out 4 (.int .i64 h.how.kind)).set 5 (.int .i64 h.how.len)).set 6 (.bool h.how.close)).set 7 (.bool h.how.expect)).set 8 (.slice none 0 0)).set 10 (.bool false)).set 9 (bg w.heap.size)).set 0 (.int .i64 2)).eq (by simp only [List.setIfInBounds_toArray,List.set_cons_succ,List.set_cons_zero])
 have hz1:w1.heap.size=w.heap.size:=by rw [←hw1];simp
 rw [hw1];have hh1:=HL.out.1.own HB.out rfl hs1;have H1:=ns (BT hs1 (BT hb1 (BT hz1 hh1)));clear hc hz hc2 hgl2 hw1 hs1 hz1 hh1;have hgl1:=Bk.lt hb1;have hc1:=Bk.all hb1;have hz1:=Bk.fz hb1;unfold bg at hc1;clear hb1;have HWhole:=ns (fun (hk:h.how.kind=0∨(h.how.kind=1∧h.how.len=0))=>show av w O g (cz h) (.returned (.tuple #[])) ((w1.setCell ⟨g,0,none⟩ (.int .i64 3)).alloc (.cells #[.slice none 0 0,.slice none 0 0,.bool false,.int .i64 0,.int .i64 0,.slice none 0 0,.int .i64 0,.int .i64 0] 200)) from by
  have hs2:Sm (fun y=>y=g) w1 (w1.setCell ⟨g,0,none⟩ (.int .i64 3)):=(Sm.refl _ w1).set1 0 _;have hsw:Sm O w ((w1.setCell ⟨g,0,none⟩ (.int .i64 3)).alloc (.cells #[.slice none 0 0,.slice none 0 0,.bool false,.int .i64 0,.int .i64 0,.slice none 0 0,.int .i64 0,.int .i64 0] 200)):=(((H1.out.1.tt hs2).alloc _).mono (fun y _ e=>e ▸ HL.out.2.1));rw [vc hk];refine⟨rfl,⟨⟨gh,vF,_,_,_,_,Bk.alloc ((Bk.set H1.out.2.1 0 (.int .i64 3)).eq rfl) _,((H1.out.2.2.2.own H1.out.2.1 rfl hs2).no ((Sm.refl No _).alloc _)).imp (fun y e=>Or.inl e),ay.nil _ _,fun y e=>by cases e⟩,Or.inl HL.out.2.1,aA.lt HL.out.2.2 hsw.size⟩,hsw⟩)
 have HOther:=ns (show Sm O w (w1.alloc (.cells #[.slice none 0 0,.slice none 0 0,.bool false,.int .i64 0,.int .i64 0,.slice none 0 0,.int .i64 0,.int .i64 0] 200)) from(H1.out.1.alloc _).mono (fun y _ e=>e ▸ HL.out.2.1));by_cases k0:h.how.kind=0
 ·have HE:=ns (HWhole.out (Or.inl k0));have e0:(h.how.kind==0)=true:=by simp [k0]
  clear k0;go_wp2_with fail
  go_end0
  exact HE.out
 ·have e0:(h.how.kind==0)=false:=by simp [k0]
  by_cases k1:h.how.kind=1
  ·have e1:(h.how.kind==1)=true:=by simp [k1]
   by_cases l0:h.how.len=0
   ·have HE:=ns (HWhole.out (Or.inr ⟨k1,l0⟩));have e2:(h.how.len==0)=true:=by simp [l0]
    clear k0 k1 l0;go_wp2_with fail
    go_end0
    exact HE.out
   ·have HE:=ns (sA (h:=h) (fun e=>e.elim k0 (fun e=>l0 e.2)) k1);have e2:(h.how.len==0)=false:=by simp [l0]
    clear k0 k1 l0;go_wp2_with fail
    go_end0
    rw [HE.out];exact⟨rfl,⟨⟨gh,vF,_,_,_,Bk.alloc H1.out.2.1 _,(H1.out.2.2.2.no ((Sm.refl No _).alloc _)).imp (fun y e=>Or.inl e),ay.nil _ _,fun y e=>by cases e⟩,Or.inl HL.out.2.1,aA.lt HL.out.2.2 HOther.out.size⟩,HOther.out⟩
  ·have HE:=ns (tj (h:=h) (fun e=>e.elim k0 (fun e=>k1 e.1)) k1);have e1:(h.how.kind==1)=false:=by simp [k1]
   clear k0 k1;go_wp2_with fail
   go_end0
   rw [HE.out];have hR:Bk (w1.alloc (.cells #[.slice none 0 0,.slice none 0 0,.bool false,.int .i64 0,.int .i64 0,.slice none 0 0,.int .i64 0,.int .i64 0] 200)) w.heap.size 200 #[.slice none 0 0,.slice none 0 0,.bool false,.int .i64 0,.int .i64 0,.slice none 0 0,.int .i64 0,.int .i64 0]:=Bk.newAt w1 _ _ H1.out.2.2.1.symm;have hvl:=fun y e=>(World.ownsRow.lt HL.out.1.hd.2.1 y e).2;refine⟨rfl,⟨⟨gh,vF,_,_,w.heap.size,fun y=>y=w.heap.size,Bk.alloc H1.out.2.1 _,(H1.out.2.2.2.no ((Sm.refl No _).alloc _)).imp (fun y e=>Or.inl e),⟨.slice none 0 0,.slice none 0 0,0,⟨hR,ay.nil _ _,ay.nil _ _,World.ownsRow_nil _ _ _ _,(fun y e=>by cases e),rfl,(fun y e=>by cases e),(fun y e=>by cases e),(fun y e=>by cases e),fun y e=>by rw [e];exact hR.lt⟩,trivial⟩,?_,?_,?_,?_⟩,Or.inl HL.out.2.1,aA.lt HL.out.2.2 HOther.out.size⟩,HOther.out⟩
   ·exact fun y e=>Or.inr ⟨by rw [e];exact Nat.le_refl _,by rw [e];exact hR.lt⟩
   ·exact fun e=>absurd (HL.out.2.2 _ HL.out.2.1) (by rw [e];exact Nat.lt_irrefl _)
   ·exact fun e=>absurd (HL.out.2.2 _ HL.out.1.og) (by rw [e];exact Nat.lt_irrefl _)
   ·exact fun y e e2=>absurd (hvl y e) (by rw [e2];exact Nat.lt_irrefl _)
theorem aA.le{O:Nat→Prop}{w w':World}(x:Nat)(h:O x):aA O w w' x:=Or.inl h
theorem rM(w:World)(O:Nat→Prop)(g:Nat)(h:Hd)(b:af)(c:UInt8)(hI:bn w O g (.len h b))(hk:h.how.kind=1)(hb:b.length≤1000000):
 Calls Tryz.prog 77 #[.pointer (some ⟨g,0,none⟩),.int .u8 c.toNat] w (av w O g (fi (.len h b) c)):=by
 obtain⟨⟨gh,vF,ln,vB,ch,hK,hH,hB,hO⟩,og,lt⟩:=hI;obtain⟨A,cp,hv, -⟩:=hB.slice;subst hv;have hgl:=Bk.lt hK;have hc:=Bk.all hK;have hz:=Bk.fz hK;have hnB:(Value.slice A b.length cp).ownBlock≠some g:=ah hB hK (by decide);have H:=ns (BT hK (BT hH (BT hB (BT hO (BT og lt)))));unfold aF bg at hc;rw [hk] at hc;dsimp only at hc;obtain⟨n,hn⟩:=Iu h.how.len;rw [hn] at hc;have HN:=ns (BT hn hk);clear hK hH hB hO og lt hn hk;have HNB:=ns hnB;clear hnB;obtain⟨R,hR⟩:=Iu (fi (.len h b) c);rw [hR];have HR:=ns (show R=if ((b.length+1:Nat):Int)=n then .whole h (b++[c]) else .len h (b++[c]) from by rw [←hR,←HN.out.1];rfl);clear hR;obtain⟨w1,hw1⟩:=Iu (w.setCell ⟨g,10,none⟩ (.bool true));have hs1:Sm (fun y=>y=g) w w1:=by rw [←hw1];exact(Sm.refl _ w).set1 10 _
 have hK1:eM w1 g 2 0 (bg gh) ln (aF h).1 (aF h).2.1 (aF h).2.2.1 (aF h).2.2.2 (.slice A b.length cp) ch (.bool true):=by rw [←hw1];exact(Bk.set H.out.1 10 _).eq rfl
 have hB1:ay w1 0 (.slice A b.length cp) b:=aa H.out.2.2.1 hs1 (fun x e e2=>HNB.out (by rw [e,e2]));have hH1:=H.out.2.1.own H.out.1 rfl hs1;have HW:=ns hw1;have H1:=ns (BT hs1 (BT hK1 (BT hB1 hH1)));have hc1:=Bk.all hK1;have hz1:=Bk.fz hK1;have hgl1:=Bk.lt hK1;unfold aF bg at hc1;rw [HN.out.1,HN.out.2] at hc1;dsimp only at hc1;clear hw1 hs1 hK1 hB1 hH1;go_in;go_upto_region 1 with fail;rw [HW.out];clear hc hz;go_upto_region 3 with (at_builtin;refine aH rfl _ _ rfl c (.slice A b.length cp) b rfl H1.out.2.2.1 rfl (by omega) ?_;intro v' w5 hO5 hs5 hv5;have hb5:=Bk.sm H1.out.2.1 hs5 HNB.out;have hc5:=Bk.all hb5;have hz5:=Bk.fz hb5;have hl5:=Bk.lt hb5;unfold aF bg at hc5;rw [HN.out.1,HN.out.2] at hc5;dsimp only at hc5;obtain⟨A5,cp5,hv6, -⟩:=hO5.slice;have hv7:v'=.slice A5 (b.length+1) cp5:=hv6.trans (by simp);clear hv6;subst hv7;have H5:=ns (BT hb5 (BT hO5 (BT hs5 hv5)));clear hO5 hs5 hv5 hb5);obtain⟨w6,hw6⟩:=Iu (w5.setCell ⟨g,8,none⟩ (.slice A5 (b.length+1) cp5));obtain⟨hb5,hO5,hs5,hv5⟩:=H5.out;have hs6:Sm (fun y=>y=g) w5 w6:=by rw [←hw6];exact(Sm.refl _ w5).set1 8 _
 have hK6:eM w6 g 2 0 (bg gh) ln (aF h).1 (aF h).2.1 (aF h).2.2.1 (aF h).2.2.2 (.slice A5 (b.length+1) cp5) ch (.bool true):=by rw [←hw6];exact(Bk.set hb5 8 (.slice A5 (b.length+1) cp5)).eq rfl
 have hB6:ay w6 0 (.slice A5 (b.length+1) cp5) (b++[c]):=aa hO5 hs6 (fun x e e2=>ah hO5 hb5 (by decide) (by rw [e,e2]));have hH5:fd w5 O gh vF h:=H1.out.2.2.2.sm hs5 (fun e=>by
  obtain⟨c1,h1⟩:=ax H1.out.2.2.1 e;have h2:=H1.out.2.2.2.hd.bk;unfold Bk at h2;rw [h1] at h2;injection h2 with h2;injection h2 with _ h2;exact absurd h2 (by decide)) (fun x e e2=>by
  obtain⟨c1,h1⟩:=ax H1.out.2.2.1 e2;obtain⟨c2,h2⟩:=ax H1.out.2.2.2.hd.2.1 e;rw [h1] at h2;injection h2 with h2;injection h2 with _ h2;exact absurd h2 (by decide))
 have hH6:=hH5.own hb5 rfl hs6;have hsw:Sm O w w6:=by
  have e1:Sm O w w1:=H1.out.1.mono (fun y _ e=>e ▸ H.out.2.2.2.2.1);have e2:Sm O w1 w5:=hs5.mono (fun y _ e=>H.out.2.2.2.1 y e);have e3:Sm O w5 w6:=hs6.mono (fun y _ e=>e ▸ H.out.2.2.2.2.1);exact(e1.tt e2).tt e3
 have hOv:∀ y,(Value.slice A5 (b.length+1) cp5).ownBlock=some y→aA O w w6 y:=fun y e=>(hv5 y e).elim (fun e2=>Or.inl (H.out.2.2.2.1 y e2)) (fun e2=>Or.inr ⟨Nat.le_trans H1.out.1.size e2,(World.ownsRow.lt hB6 y e).2⟩);have H6:=ns (BT hs6 (BT hK6 (BT hB6 (BT hH6 (BT hsw hOv)))));rw [hw6];have hgl6:=Bk.lt hK6;have hc6:=Bk.all hK6;have hz6:=Bk.fz hK6;unfold aF bg at hc6;rw [HN.out.1,HN.out.2] at hc6;dsimp only at hc6;clear hb5 hO5 hs5 hv5 hs6 hK6 hB6 hH5 hH6 hsw hw6 hc5 hz5 hl5 hc1 hz1 hOv;go_quiet (fail);have hgl7:g < (w6.drewN nq).heap.size:=hgl6;by_cases hd:((b.length+1:Nat):Int)=n
 ·have e1:((b.length:Int)+1==n)=true:=by rw [beq_iff_eq];omega
  have HE:=ns (HR.out.trans (if_pos hd));clear hd;go_wp2_with fail
  go_end0
  rw [HE.out];have hs7:Sm (fun y=>y=g) w6 ((w6.drewN nq).setCell ⟨g,0,none⟩ (.int .i64 3)):=((Sm.refl _ w6).drewN nq).set1 0 _;have hsf:=H6.out.2.2.2.2.1.trans hs7 (fun y _ e=>e ▸ H.out.2.2.2.2.1);exact⟨rfl,⟨⟨gh,vF,_,_,_,_,(Bk.set (Bk.drewN H6.out.2.1 nq) 0 (.int .i64 3)).eq rfl,(H6.out.2.2.2.1.own H6.out.2.1 rfl hs7).imp aA.le,aa H6.out.2.2.1 hs7 (fun x e e2=>ah H6.out.2.2.1 H6.out.2.1 (by decide) (by rw [e,e2])),fun y e=>(H6.out.2.2.2.2.2 y e).elim Or.inl (fun e2=>Or.inr ⟨e2.1,Nat.lt_of_lt_of_le e2.2 hs7.size⟩)⟩,Or.inl H.out.2.2.2.2.1,aA.lt H.out.2.2.2.2.2 hsf.size⟩,hsf⟩
 ·have e1:((b.length:Int)+1==n)=false:=by rw [beq_eq_false_iff_ne];omega
  have HE:=ns (HR.out.trans (if_neg hd));clear hd;go_wp2_with fail
  go_end0
  rw [HE.out];have hs7:Sm No w6 (w6.drewN nq):=(Sm.refl _ w6).drewN nq;have hsf:=H6.out.2.2.2.2.1.drewN nq;refine⟨rfl,⟨⟨gh,vF,ln,_,ch,?_,(H6.out.2.2.2.1.no hs7).imp aA.le,aa H6.out.2.2.1 hs7 (fun _ _ e=>e),H6.out.2.2.2.2.2⟩,Or.inl H.out.2.2.2.2.1,aA.lt H.out.2.2.2.2.2 hsf.size⟩,hsf⟩;have e:(!(b++[c]).isEmpty)=true:=by simp
  rw [e];exact Bk.drewN H6.out.2.1 nq
theorem vg.slice{w:World}{O:Nat→Prop}{g:Nat}{vB:Value}{q:ej}(h:vg w O g vB q):∃ A n c,vB=.slice A n c:=by
 cases q with
 |«at» b p=>obtain⟨a,b,c,h,d⟩:=h;obtain⟨A,c,hv,_⟩:=h.body.slice;exact⟨A,_,c,hv⟩
 |whole b=>obtain⟨a1,a2,a3,a4,a5,a6,a7,h⟩:=h;obtain⟨A,c,hv,_⟩:=h.body.slice;exact⟨A,_,c,hv⟩
 |bad s=>obtain⟨a1,a2,a3,a4,a5,a6,a7,a8,h⟩:=h;obtain⟨A,c,hv,_⟩:=h.body.slice;exact⟨A,_,c,hv⟩
theorem vg.sm{w w':World}{O S:Nat→Prop}{g:Nat}{vB:Value}{q:ej}(h:vg w O g vB q)(hs:Sm S w w')(hS:∀ x,O x→¬S x):vg w' O g vB q:=by
 cases q with
 |«at» b p=>obtain⟨a,b,c,h,d⟩:=h;exact⟨a,b,c,h.sm hs hS,d⟩
 |whole b=>obtain⟨a1,a2,a3,a4,a5,a6,a7,h⟩:=h;exact⟨a1,a2,a3,a4,a5,a6,a7,h.sm hs hS⟩
 |bad s=>obtain⟨a1,a2,a3,a4,a5,a6,a7,a8,h⟩:=h;exact⟨a1,a2,a3,a4,a5,a6,a7,a8,h.sm hs hS⟩
theorem Dk{b s:af}:cP b s≠ .bad 0:=by
 unfold cP;intro h;split at h
 ·injection h with h;exact absurd h (by decide)
 ·split at h
  ·injection h with h;exact absurd h (by decide)
  ·split at h
   ·injection h with h;exact absurd h (by decide)
   ·split at h<;>cases h
theorem Aq{b s:af}{e:Nat}{ts:List aJ}:bN b s e ts≠ .bad 0:=by
 unfold bN;intro h;split at h
 ·cases h
 ·split at h
  ·injection h with h;exact absurd h (by decide)
  ·split at h
   ·injection h with h;exact absurd h (by decide)
   ·cases h
theorem GM{b:af}{p:df}{c:UInt8}:db b p c≠ .bad 0:=by
 intro h
 cases p with
 |data n=>rw [dG] at h;cases h
 |tail k=>
  have e:db b (.tail k) c=if c=(if k=0 then 13 else 10) then .at b (if k=0 then .tail 1 else .size []) else .bad 400:=rfl;rw [e] at h;by_cases hc:c=(if k=0 then 13 else 10)
  ·rw [if_pos hc] at h;cases h
  ·rw [if_neg hc] at h;injection h with h;exact absurd h (by decide)
 |size l=>
  rw [cj] at h;split at h
  ·split at h
   ·injection h with h;exact absurd h (by decide)
   ·exact Dk h
  ·split at h
   ·injection h with h;exact absurd h (by decide)
   ·cases h
 |trail l e ts=>
  rw [bB] at h;split at h
  ·split at h
   ·injection h with h;exact absurd h (by decide)
   ·exact Aq h
  ·split at h
   ·injection h with h;exact absurd h (by decide)
   ·cases h
theorem wG{b b':af}{p p':df}{c:UInt8}(ho:jK b p)(h:db b p c=.at b' p'):(b'.isEmpty&&p'.fresh)=false:=by
 have ha:=ho.pl
 cases p with
 |data n=>
  rw [dG] at h;injection h with h1 h2;rw [←h1];simp
 |tail k=>
  have e:db b (.tail k) c=if c=(if k=0 then 13 else 10) then .at b (if k=0 then .tail 1 else .size []) else .bad 400:=rfl;rw [e] at h;by_cases hc:c=(if k=0 then 13 else 10)
  ·rw [if_pos hc] at h;injection h with h1 h2;rw [←h1];have hb:b≠[]:=ha.2
   cases b with
   |nil=>exact absurd rfl hb
   |cons=>rfl
  ·rw [if_neg hc] at h;cases h
 |size l=>
  rw [cj] at h;split at h
  ·split at h
   ·cases h
   ·rename_i s _
    unfold cP at h;split at h
    ·cases h
    ·split at h
     ·cases h
     ·split at h
      ·cases h
      ·split at h
       ·injection h with h1 h2;rw [←h2];simp [df.fresh]
       ·injection h with h1 h2;rw [←h2];simp [df.fresh]
  ·split at h
   ·cases h
   ·injection h with h1 h2;rw [←h2]
    cases l with
    |nil=>simp [df.fresh]
    |cons=>simp [df.fresh]
 |trail l e ts=>
  rw [bB] at h;split at h
  ·split at h
   ·cases h
   ·unfold bN at h;split at h
    ·cases h
    ·split at h
     ·cases h
     ·split at h
      ·cases h
      ·injection h with h1 h2;rw [←h2];simp [df.fresh]
  ·split at h
   ·cases h
   ·injection h with h1 h2;rw [←h2];simp [df.fresh]
theorem oS(w:World)(O:Nat→Prop)(g:Nat)(h:Hd)(b:af)(p:df)(c:UInt8)(hI:bn w O g (.chunk h b p))(hk:h.how.kind=2)(ho:jK b p):
 Calls Tryz.prog 77 #[.pointer (some ⟨g,0,none⟩),.int .u8 c.toNat] w (av w O g (fi (.chunk h b p) c)):=by
 obtain⟨⟨gh,vF,ln,vB,gr,Or',hK,hH,hR,hO,n1,n2,n3⟩,og,lt⟩:=hI;have hgl:=Bk.lt hK;have hc:=Bk.all hK;have hz:=Bk.fz hK;have H:=ns (BT hK (BT hH (BT hR (BT hO (BT og lt)))));have HNn:=ns (BT n1 (BT n2 n3));unfold aF bg at hc;rw [hk] at hc;dsimp only at hc;have HKd:=ns hk;clear hK hH hR hO og lt hk n1 n2 n3;obtain⟨q,hq⟩:=Iu (db b p c);rw [show fi (.chunk h b p) c=dj h q from by rw [←hq];rfl];obtain⟨R,hR⟩:=Iu (dj h q);rw [hR];have HR:=ns hR;have HQq:=ns hq;clear hR;obtain⟨w1,hw1⟩:=Iu (w.setCell ⟨g,10,none⟩ (.bool true));have hs1:Sm (fun y=>y=g) w w1:=by rw [←hw1];exact(Sm.refl _ w).set1 10 _
 have hK1:eM w1 g 2 0 (bg gh) ln (aF h).1 (aF h).2.1 (aF h).2.2.1 (aF h).2.2.2 vB (bg gr) (.bool true):=by rw [←hw1];exact(Bk.set H.out.1 10 (.bool true)).eq rfl
 have hH1:=H.out.2.1.own H.out.1 rfl hs1;have hR1:Cz w1 Or' gr vB b p:=by
  obtain⟨a1,a2,a3,a4,a5⟩:=H.out.2.2.1;exact⟨a1,a2,a3,a4.sm hs1 (fun x hx e=>HNn.out.1 (e ▸ hx)),a5⟩
 have HW:=ns hw1;have H1:=ns (BT hs1 (BT hK1 (BT hH1 hR1)));have hc1:=Bk.all hK1;have hz1:=Bk.fz hK1;have hgl1:=Bk.lt hK1;unfold aF bg at hc1;rw [HKd.out] at hc1;dsimp only at hc1;clear hw1 hs1 hK1 hH1 hR1 hq;go_in;go_upto_region 1 with fail;rw [HW.out];clear hc hz;go_wp2_with fail;obtain⟨w2,hw2⟩:∃ w2,w1.alloc (.cells #[.int .u8 c.toNat] 5)=w2:=⟨_,rfl⟩;have hs2:Sm No w1 w2:=by rw [←hw2];exact(Sm.refl No w1).alloc _
 have hb2:Bk w2 w1.heap.size 5 #[.int .u8 c.toNat]:=by rw [←hw2];exact Bk.new w1 _ _
 rw [hw2];have hR2:Cz w2 Or' gr vB b p:=by
  obtain⟨a1,a2,a3,a4,a5⟩:=H1.out.2.2.2;exact⟨a1,a2,a3,a4.no hs2,a5⟩
 have HF:=ur w2 Or' gr vB b p c w1.heap.size 1 hR2 ho hb2.lt (hb2.at 0 rfl);rw [HQq.out] at HF;have H2:=ns hs2;refine HF.mono ?_;clear HF hw2 hs2 hb2 hR2 hc1 hz1;rintro e w3 ⟨v3,rfl,hQ3,hs3⟩;have hK3:eM w3 g 2 0 (bg gh) ln (aF h).1 (aF h).2.1 (aF h).2.2.1 (aF h).2.2.2 vB (bg gr) (.bool true):=Bk.sm (Bk.sm H1.out.2.1 H2.out (fun e=>e)) hs3 HNn.out.1;have hH3:=(H1.out.2.2.1.no H2.out).sm hs3 HNn.out.2.1 HNn.out.2.2;obtain⟨q1,q2,q3,q4,q5,hbr⟩:=hQ3.bk;obtain⟨A3,n3,c3,hv3⟩:=hQ3.slice;subst hv3;have hgl3:=Bk.lt hK3;have hc3:=Bk.all hK3;have hz3:=Bk.fz hK3;have hcr:=hbr.all;have hlr:=hbr.lt;unfold aF bg at hc3;rw [HKd.out] at hc3;dsimp only at hc3;obtain⟨w4,hw4⟩:=Iu (w3.setCell ⟨g,8,none⟩ (.slice A3 n3 c3));have hs4:Sm (fun y=>y=g) w3 w4:=by rw [←hw4];exact(Sm.refl _ w3).set1 8 (.slice A3 n3 c3)
 have hK4:eM w4 g 2 0 (bg gh) ln (aF h).1 (aF h).2.1 (aF h).2.2.1 (aF h).2.2.2 (.slice A3 n3 c3) (bg gr) (.bool true):=by rw [←hw4];exact(Bk.set hK3 8 (.slice A3 n3 c3)).eq rfl
 have hH4:=hH3.own hK3 rfl hs4;have hOg:¬aA Or' w2 w3 g:=fun e=>e.elim HNn.out.1 (fun e=>absurd (Nat.lt_of_lt_of_le hgl1 H2.out.size) (by omega));have hQ4:=hQ3.sm hs4 (fun x hx e=>hOg (e ▸ hx));have hsw:Sm O w w4:=by
  have e1:Sm O w w1:=H1.out.1.mono (fun y _ e=>e ▸ H.out.2.2.2.2.1);have e2:Sm O w1 w2:=H2.out.any O;have e3:Sm O w2 w3:=hs3.mono (fun y _ e=>H.out.2.2.2.1 y e);have e4:Sm O w3 w4:=hs4.mono (fun y _ e=>e ▸ H.out.2.2.2.2.1);exact((e1.tt e2).tt e3).tt e4
 have hlt:=H.out.2.2.2.2.2;have hsz2:w.heap.size≤w2.heap.size:=Nat.le_trans H1.out.1.size H2.out.size;have hup:∀ y,aA Or' w2 w3 y→aA O w w4 y:=fun y e=>e.elim (fun e=>Or.inl (H.out.2.2.2.1 y e)) (fun e=>Or.inr ⟨Nat.le_trans hsz2 e.1,Nat.lt_of_lt_of_le e.2 hs4.size⟩);have hOh:¬aA Or' w2 w3 gh:=fun e=>e.elim HNn.out.2.1 (fun e=>absurd (Nat.lt_of_lt_of_le (H.out.2.2.2.2.2 _ H.out.2.1.og) hsz2) (by omega));have hOf:∀ y,vF.ownBlock=some y→¬aA Or' w2 w3 y:=fun y e=>fun e2=>e2.elim (HNn.out.2.2 y e) (fun e3=>absurd (Nat.lt_of_lt_of_le (H.out.2.2.2.2.2 _ (H.out.2.1.of y e)) hsz2) (by omega));have H4:=ns (BT hw4 (BT hK4 (BT hH4 (BT hQ4 (BT hsw (BT hup (BT hOg (BT hOh hOf))))))));have hgl4:=Bk.lt hK4;have hc4:=Bk.all hK4;have hz4:=Bk.fz hK4;clear hK3 hH3 hbr hs4 hK4 hH4 hOg hQ4 hsw hup hOh hOf hQ3 hs3 hw4 hlt hsz2;go_upto_region 7 with fail;rw [H4.out.1];clear hc3 hz3 hcr hlr hgl3
 cases q with
 |«at» b' p'=>
  have hf:=wG ho HQq.out;have HE:=ns (show R=.chunk h b' p' from HR.out.symm);rw [show (ej.at b' p').sta=0 from rfl,show (ej.at b' p').wh=false from rfl];clear hc4 hz4;go_wp2_with fail
  go_end0
  rw [HE.out];refine⟨rfl,⟨⟨gh,vF,ln,_,gr,_,?_,H4.out.2.2.1.imp aA.le,H4.out.2.2.2.1,H4.out.2.2.2.2.2.1,H4.out.2.2.2.2.2.2⟩,Or.inl H.out.2.2.2.2.1,aA.lt H.out.2.2.2.2.2 H4.out.2.2.2.2.1.size⟩,H4.out.2.2.2.2.1⟩;rw [hf];exact H4.out.2.1
 |whole b'=>
  have HE:=ns (show R=.whole h b' from HR.out.symm);rw [show (ej.whole b').sta=0 from rfl,show (ej.whole b').wh=true from rfl];go_wp2_with fail
  go_end0
  rw [HE.out];have hs5:Sm (fun y=>y=g) w4 (w4.setCell ⟨g,0,none⟩ (.int .i64 3)):=(Sm.refl _ w4).set1 0 _;have hsf:=H4.out.2.2.2.2.1.trans hs5 (fun y _ e=>e ▸ H.out.2.2.2.2.1);obtain⟨a1,a2,a3,a4,a5,a6,a7,hB⟩:=H4.out.2.2.2.1;exact⟨rfl,⟨⟨gh,vF,ln,_,_,_,(Bk.set H4.out.2.1 0 (.int .i64 3)).eq rfl,(H4.out.2.2.1.own H4.out.2.1 rfl hs5).imp aA.le,aa hB.body hs5 (fun x e e2=>ah hB.body H4.out.2.1 (by decide) (by rw [e,e2])),fun y e=>(H4.out.2.2.2.2.2.1 y (hB.ob y e)).elim Or.inl (fun e2=>Or.inr ⟨e2.1,Nat.lt_of_lt_of_le e2.2 hs5.size⟩)⟩,Or.inl H.out.2.2.2.2.1,aA.lt H.out.2.2.2.2.2 hsf.size⟩,hsf⟩
 |bad st=>
  have h0:st≠0:=fun e=>GM (e ▸ HQq.out);have e1:(st==0)=false:=by simp [h0]
  have e2:(st != 0)=true:=by simp [h0]
  have HE:=ns (show R=.bad st from HR.out.symm);rw [show (ej.bad st).sta=st from rfl,show (ej.bad st).wh=false from rfl];clear h0 hc4 hz4;go_wp2_with fail;refine(ep w4 (aA O w w4) g st H4.out.2.1 (Or.inl H.out.2.2.2.2.1) (aA.lt H.out.2.2.2.2.2 H4.out.2.2.2.2.1.size)).mono ?_;rintro e w5 ⟨rfl,h5⟩;have H5:=ns h5;clear h5;go_wp2_with fail
  go_end0
  rw [HE.out];exact av.up ⟨rfl,H5.out⟩ H.out.2.2.2.2.2 H.out.2.2.2.2.1 H4.out.2.2.2.2.1
end Go.Proofs.YtcflkcbogofgbaaGreatDoor
