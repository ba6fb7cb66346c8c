import Derived.Test.YtcflkcbogofgbaaGreatDoorQPrsY
set_option maxHeartbeats 16000000
set_option maxRecDepth 100000
namespace Go.Proofs.YtcflkcbogofgbaaGreatDoor
open Go.RowKit Go.Proofs
theorem Fi{l:List af}{n:Int}(h:jb l=(n,0))(hl:∀ x∈l,x.length≤100000):0≤n∧n≤2048:=by
 unfold jb at h;split at h
 ·injection h with _ h;(first|exact absurd h (by decide)|simp at h)
 ·rename_i t r
  split at h
  ·split at h
   ·injection h with _ h;(first|exact absurd h (by decide)|simp at h)
   ·injection h with h _
    rename_i g
    have:=lh t (hl t (by simp));omega
  ·injection h with _ h;(first|exact absurd h (by decide)|simp at h)
theorem CG{m:Int}{fs:List aJ}(hL:eo fs)(h:(bw m fs).2.2=0):((bw m fs).1=0∨(bw m fs).1=1∨(bw m fs).1=2)∧0≤(bw m fs).2.1∧(bw m fs).2.1≤2048:=by
 by_cases h1:0 < (ag fs fq).length
 ·rw [lV h1];exact⟨Or.inr (Or.inr rfl),Int.le_refl 0,by show (0:Int)≤2048;decide⟩
 ·by_cases h2:0 < (ag fs cQ).length
  ·rw [lY h1 h2] at h ⊢;refine⟨Or.inr (Or.inl rfl),?_⟩;have hlt:=hL.light cQ;dsimp only at h ⊢;unfold ke at h ⊢
   cases ht:az (aj (ag fs cQ)) with
   |none=>rw [ht] at h;(first|exact absurd h (by decide)|simp at h)
   |some l=>
    rw [ht] at h;dsimp only at h ⊢;have e:jb l=((jb l).1,0):=by rw [←h]
    exact Fi e (fun x hx=>Nat.le_trans (hlt.toks ht x hx) (by decide))
  ·rw [nM h1 h2];exact⟨Or.inl rfl,Int.le_refl 0,by show (0:Int)≤2048;decide⟩
structure tT (h:rn):Prop where
 kind:h.kind=0∨h.kind=1∨h.kind=2
 lo:0≤h.len
 hi:h.len≤2048
theorem E5{m:Int}{fs:List aJ}(hL:eo fs)(h:(eP m fs).2=0):tT (eP m fs).1:=by
 cases h1:gv m (ag fs fV) with
 |false=>rw [gW h1] at h;(first|exact absurd h (by decide)|simp at h)
 |true=>
  by_cases h2:(bw m fs).2.2=0
  ·obtain⟨g1,g2,g3⟩:=CG hL h2;by_cases h3:az (aj (ag fs ji))=none
   ·rw [oX h1 h2 h3] at h;(first|exact absurd h (by decide)|simp at h)
   ·rw [oL h1 h2 h3] at h ⊢;split at h
    ·rename_i g
     rw [if_pos g];split at h
     ·(first|exact absurd h (by decide)|simp at h)
     ·rename_i g4
      rw [if_neg g4];exact⟨g1,g2,g3⟩
    ·rename_i g
     rw [if_neg g];exact⟨g1,g2,g3⟩
  ·rw [dZ h1 h2] at h;exact absurd h h2
structure iS (h:Hd):Prop where
 ok:fk h
 isx:∀ x∈h.fields,ny x=true
theorem kL:iS Hd.new:=⟨⟨by decide,by decide,by decide,by decide,Or.inl rfl⟩,fun x hx=>by cases hx⟩
theorem Dy{fs:List aJ}{x:aJ}(h:(aY fs [x]).2.2=0):(aY fs [x]).1=fs++[x]∧ny x=true∧fs.length < 24:=by
 unfold aY at h ⊢;by_cases h1:ny x=false
 ·rw [if_pos h1] at h;(first|exact absurd h (by decide)|simp at h)
 ·rw [if_neg h1] at h ⊢;by_cases h2:24≤fs.length
  ·rw [if_pos h2] at h;(first|exact absurd h (by decide)|simp at h)
  ·rw [if_neg h2];exact⟨rfl,by simpa using h1,by omega⟩
theorem Bs{h:Hd}{l:List af}(ho:iS h)(hz:(bz h l).2=0):iS (bz h l).1∧(bz h l).1.whole=h.whole:=by
 by_cases h3:l.length=3
 ·obtain⟨m,s,v,rfl⟩:=Cb h3
  cases ht:bP m with
  |false=>rw [iD ht] at hz;(first|exact absurd hz (by decide)|simp at hz)
  |true=>
   by_cases hv:(dI v).1=0
   ·rw [ix ht hv] at hz ⊢
    cases hT:cG m s with
    |mk o c=>
     rw [hT] at hz
     cases o with
     |none=>
      dsimp only at hz;split at hz<;>(first|exact absurd hz (by decide)|simp at hz)
     |some t=>
      dsimp only;refine⟨⟨⟨ho.ok.len,ho.ok.size,ho.ok.bytes,ho.ok.empty,?_⟩,ho.isx⟩,rfl⟩;unfold qM;dsimp only;split
      ·exact ho.ok.minor
      ·exact Or.inr rfl
   ·rw [eV ht hv] at hz;exact absurd hz hv
 ·rw [iE h3] at hz;(first|exact absurd hz (by decide)|simp at hz)
theorem iS.more{h:Hd}(ho:iS h){n:Nat}(hn:¬1024 < h.bytes+n+2):iS (h.more n):=
 ⟨⟨ho.ok.len,by show pD h.fields≤h.bytes+n+2;have:=ho.ok.size;omega,by show h.bytes+n+2≤1024;omega,ho.ok.empty,ho.ok.minor⟩,ho.isx⟩
theorem FB{h:Hd}{s:af}(ho:iS h)(hn:¬1024 < h.bytes+s.length+2)(hz:(gH (h.more s.length) s).2=0):iS (gH (h.more s.length) s).1∧(gH (h.more s.length) s).1.whole=h.whole:=by
 have hm:=ho.more hn;unfold gH at hz ⊢;split at hz
 ·(first|exact absurd hz (by decide)|simp at hz)
 ·rename_i g
  rw [if_neg g];obtain⟨⟨pe,pn,pv⟩,hp⟩:∃ P,aL s=P:=⟨_,rfl⟩;rw [hp] at hz ⊢;dsimp only at hz ⊢;split at hz
  ·(first|exact absurd hz (by decide)|simp at hz)
  ·rename_i g2
   have g3:(aY (h.more s.length).fields [((⟨pn.toArray⟩:ByteArray),(⟨pv.toArray⟩:ByteArray))]).2.2=0:=by simpa using g2
   obtain⟨a1,a2,a3⟩:=Dy g3;have hb:=me hp;rw [a1];refine⟨⟨⟨?_,?_,hm.ok.bytes,hm.ok.empty,hm.ok.minor⟩,?_⟩,rfl⟩
   ·show ((h.more s.length).fields++_).length≤24;rw [List.length_append];simp only [List.length_singleton];omega
   ·show pD ((h.more s.length).fields++_)≤(h.more s.length).bytes;rw [DD];have e1:(⟨pn.toArray⟩:ByteArray).size=pn.length:=by show pn.toArray.size=_;simp
    have e2:(⟨pv.toArray⟩:ByteArray).size=pv.length:=by show pv.toArray.size=_;simp
    dsimp only;rw [e1,e2];show pD h.fields+_≤h.bytes+s.length+2;have:=ho.ok.size;omega
   ·intro x hx;rcases List.mem_append.1 hx with hx|hx
    ·exact ho.isx x hx
    ·rw [List.mem_singleton.1 hx];exact a2
theorem uq{h:Hd}{s:af}(ho:iS h)(hw:h.whole=false)(hz:(aW h s).2=0):iS (aW h s).1∧((aW h s).1.whole=true→tT (aW h s).1.how):=by
 have hlong:h.long≠0:=by unfold Hd.long;split<;>decide
 unfold aW at hz ⊢;split at hz
 ·exact absurd hz hlong
 ·rename_i g1
  rw [if_neg g1];split at hz
  ·exact absurd hz hlong
  ·rename_i g2
   rw [if_neg g2];split at hz
   ·rename_i g3
    rw [if_pos g3];split at hz
    ·rename_i g4
     rw [if_pos g4];split at hz
     ·(first|exact absurd hz (by decide)|simp at hz)
     ·rename_i g5
      have hm:=ho.more (n:=0) (by rw [g4] at g2;exact g2);refine⟨⟨⟨hm.ok.len,hm.ok.size,hm.ok.bytes,by show h.empty+1≤4;omega,hm.ok.minor⟩,hm.isx⟩,fun e=> ?_⟩;have:h.whole=true:=e;rw [hw] at this;cases this
    ·rename_i g4
     rw [if_neg g4];obtain⟨a,b⟩:=Bs (ho.more g2) hz;refine⟨a,fun e=> ?_⟩;rw [b] at e;have:h.whole=true:=e;rw [hw] at this;cases this
   ·rename_i g3
    rw [if_neg g3];split at hz
    ·rename_i g4
     rw [if_pos g4];have hm:=ho.more (n:=0) (by rw [g4] at g2;exact g2);exact⟨⟨⟨hm.ok.len,hm.ok.size,hm.ok.bytes,hm.ok.empty,hm.ok.minor⟩,hm.isx⟩,fun _=>E5 ho.ok.light hz⟩
    ·rename_i g4
     rw [if_neg g4];obtain⟨a,b⟩:=FB ho g2 hz;refine⟨a,fun e=> ?_⟩;rw [b,hw] at e;cases e
def bI:cu→Prop
 | .idle=>True
 | .head h L=>iS h∧fU h L
 | .len h b=>iS h∧h.how.kind=1∧(b.length:Int) < h.how.len∧h.how.len≤2048
 | .chunk h b p=>iS h∧h.how.kind=2∧jK b p
 | .whole h b=>iS h∧b.length≤2048
 | .bad _=>True
theorem yX{h:Hd}(ho:iS h)(hh:tT h.how):bI (cz h):=by
 by_cases h0:h.how.kind=0∨(h.how.kind=1∧h.how.len=0)
 ·rw [vc h0];exact⟨ho,Nat.zero_le _⟩
 ·by_cases h1:h.how.kind=1
  ·rw [sA h0 h1];refine⟨ho,h1,?_,hh.hi⟩;have h2:h.how.len≠0:=fun e=>h0 (Or.inr ⟨h1,e⟩);have:=hh.lo;show (0:Int) < _;omega
  ·rw [tj h0 h1];refine⟨ho,?_,⟨Nat.zero_le _,Nat.zero_le 65⟩⟩;rcases hh.kind with e|e|e
   ·exact absurd (Or.inl e) h0
   ·exact absurd e h1
   ·exact e
theorem kO{h:Hd}{s:af}(hw:h.whole=false)(hs:h.status=0):bf h s= {(aW h s).1 with status:=(aW h s).2}:=by unfold bf;rw [if_pos ⟨hw,hs⟩]
theorem tn{h:Hd}{L:af}{c:UInt8}(hg:iS h)(ho:fU h L):bI (dK h L c):=by
 unfold dK;split
 ·split
  ·trivial
  ·rename_i s hs
   rw [kO ho.whole ho.status];dsimp only;split
   ·trivial
   ·rename_i g
    have hz:(aW h s).2=0:=by simpa using g
    obtain⟨a,b⟩:=uq hg ho.whole hz;have a2:iS {(aW h s).1 with status:=(aW h s).2}:=⟨⟨a.ok.len,a.ok.size,a.ok.bytes,a.ok.empty,a.ok.minor⟩,a.isx⟩;split
    ·rename_i hw
     exact yX a2 (b hw)
    ·rename_i hw
     refine⟨a2,a2.ok,Nat.zero_le _,?_,hz⟩
     cases e:(aW h s).1.whole with
     |true=>exact absurd e hw
     |false=>rfl
 ·split
  ·trivial
  ·rename_i g
   exact⟨hg,ho.ok,vj g,ho.whole,ho.status⟩
theorem rz{s:cu}{c:UInt8}(h:bI s):bI (fi s c):=by
 cases s with
 |idle=>exact tn kL ⟨kL.ok,Nat.zero_le _,rfl,rfl⟩
 |head h' L=>exact tn h.1 h.2
 |len h' b=>
  obtain⟨h1,h2,h3,h4⟩:=h;show bI (if ((b.length+1:Nat):Int)=h'.how.len then .whole h' (b++[c]) else .len h' (b++[c]));split
  ·refine⟨h1,?_⟩;rw [List.length_append,List.length_singleton];omega
  ·refine⟨h1,h2,?_,h4⟩;rw [List.length_append,List.length_singleton];omega
 |chunk h' b p=>
  obtain⟨h1,h2,h3⟩:=h;show bI (dj h' (db b p c))
  cases hq:db b p c with
  |«at» b' p'=>exact⟨h1,h2,vD h3 hq⟩
  |whole b'=>exact⟨h1,by rw [BP hq];exact h3.body⟩
  |bad st=>trivial
 |whole h' b=>exact h
 |bad st=>exact h
theorem kM:∀ (t:af) {s:cu},bI s→bI (au s t).1
 |[],s,h=>h
 |c::r,s,h=>by
  cases hd:s.done with
  |true=>rw [ce hd];exact h
  |false=>rw [bJ hd];exact kM r (rz h)
theorem mU:∀ (ps l r:List af),dP (some l) ps=some r→wt r≤wt l+wt ps
 |[],l,r,h=>by
  injection h with h;subst h;simp [wt]
 |p::ps,l,r,h=>by
  rw [il] at h;rw [qW];unfold fR at h;dsimp only at h;split at h
  ·have:=mU ps l r h;omega
  ·split at h
   ·split at h
    ·rw [kh] at h;cases h
    ·have:=mU ps _ r h;have:=qR l;omega
   ·have:=mU ps _ r h;rw [rN] at this;omega
theorem Ai{s p:af}(h:bG s=some p):p.length≤s.length+2:=by
 unfold bG at h;split at h
 ·cases hf:dP (some []) (cc 47 s) with
  |none=>rw [hf] at h;cases h
  |some l=>
   rw [hf] at h;injection h with h;subst h;have h1:=mU _ _ _ hf;have h2:=xR s;have h3:(eN l).length=wt l:=uT l;have h4:wt ([]:List af)=0:=rfl;show (oP ((cc 47 s).getLastD []) (eN l)).length≤s.length+2;unfold oP;split
   ·rw [List.length_append,List.length_singleton];omega
   ·omega
 ·cases h
theorem yo{s p q:af}(h:cw s=some (p,q)):p.length≤s.length+2∧q.length≤s.length:=by
 unfold cw at h;split at h
 ·unfold rW at h
  cases hd:cq (s.takeWhile lG) with
  |none=>rw [hd] at h;cases h
  |some d=>
   rw [hd] at h;dsimp only at h;have h1:=gP _ _ d (Nat.le_refl _) hd;have h2:(s.takeWhile lG).length≤s.length:=(List.takeWhile_prefix lG).length_le;unfold B9 at h
   cases hc:bG d with
   |none=>rw [hc] at h;cases h
   |some x=>
    rw [hc] at h;injection h with h;injection h with ha hb;subst ha hb;have h3:=Ai hc;refine⟨by omega,?_⟩;rw [List.length_drop];omega
 ·cases h
theorem FC(r:af):(pC r).length≤r.length+1:=by
 unfold pC;split
 ·simp
 ·simp
theorem FR{m s:af}{t:Tg}{c:Int}(h:cG m s=(some t,c)):t.path.length≤210∧t.query.length≤210:=by
 unfold cG at h;split at h
 ·cases h
 ·rename_i hl
  split at h
  ·split at h
   ·injection h with h;injection h with h;subst h;exact⟨Nat.zero_le _,Nat.zero_le _⟩
   ·cases h
  ·split at h
   ·injection h with h;injection h with h;subst h;exact⟨Nat.zero_le _,Nat.zero_le _⟩
   ·split at h
    ·split at h
     ·rename_i p q ho
      injection h with h;injection h with h;subst h;have:=yo ho;exact⟨by show p.length≤210;omega,by show q.length≤210;omega⟩
     ·cases h
    ·split at h
     ·injection h with h _;unfold fm at h;split at h
      ·unfold vv at h
       cases ho:cw (pC ((s.drop 7).drop ((s.drop 7).takeWhile gS).length)) with
       |none=>rw [ho] at h;cases h
       |some x=>
        obtain⟨p,q⟩:=x;rw [ho] at h;injection h with h;subst h;have h1:=yo ho;have h2:(pC ((s.drop 7).drop ((s.drop 7).takeWhile gS).length)).length≤s.length+1:=by
         have h3:((s.drop 7).drop ((s.drop 7).takeWhile gS).length).length≤s.length:=by rw [List.length_drop,List.length_drop];omega
         exact Nat.le_trans (FC _) (by omega)
        exact⟨by show p.length≤210;omega,by show q.length≤210;omega⟩
      ·cases h
     ·cases h
def mN(h:Hd):Prop:=h.method.length≤300∧h.target.path.length≤300∧h.target.query.length≤300
theorem AU{h:Hd}{s:af}(ho:mN h)(hs:s.length≤256):mN (bz h (iR s)).1:=by
 by_cases h3:(iR s).length=3
 ·obtain⟨m,t,v,he⟩:=Cb h3;have hm:m.length≤s.length+1:=ox (by rw [he];simp);rw [he]
  cases ht:bP m with
  |false=>rw [iD ht];exact ho
  |true=>
   by_cases hv:(dI v).1=0
   ·rw [ix ht hv]
    cases hT:cG m t with
    |mk o c=>
     cases o with
     |none=>exact ho
     |some t'=>
      have:=FR hT;exact⟨by show m.length≤300;omega,by show t'.path.length≤300;omega,by show t'.query.length≤300;omega⟩
   ·rw [eV ht hv];exact ho
 ·rw [iE h3];exact ho
theorem sq{h:Hd}{s:af}(ho:mN h):mN (bf h s):=by
 unfold bf;split
 ·show mN {(aW h s).1 with status:=(aW h s).2};have h1:mN (aW h s).1:=by
   unfold aW;split
   ·exact ho
   ·split
    ·exact ho
    ·split
     ·split
      ·exact ho
      ·exact AU (h:=h.more s.length) ho (by omega)
     ·split
      ·exact ho
      ·unfold gH;split
       ·exact ho
       ·exact ho
  exact h1
 ·exact ho
def hY:cu→Prop
 | .head h _=>mN h
 | .len h _=>mN h
 | .chunk h _ _=>mN h
 | .whole h _=>mN h
 |_=>True
theorem Bd{h:Hd}(ho:mN h):hY (cz h):=by
 unfold cz;split
 ·exact ho
 ·split
  ·exact ho
  ·exact ho
theorem uP{h:Hd}{L:af}{c:UInt8}(ho:mN h):hY (dK h L c):=by
 unfold dK;split
 ·split
  ·trivial
  ·split
   ·trivial
   ·split
    ·exact Bd (sq ho)
    ·exact sq ho
 ·split
  ·trivial
  ·exact ho
theorem FP{s:cu}{c:UInt8}(h:hY s):hY (fi s c):=by
 cases s with
 |idle=>exact uP ⟨by decide,by decide,by decide⟩
 |head h' L=>exact uP h
 |len h' b=>
  show hY (if ((b.length+1:Nat):Int)=h'.how.len then .whole h' (b++[c]) else .len h' (b++[c]));split<;>exact h
 |chunk h' b p=>
  show hY (dj h' (db b p c))
  cases db b p c with
  |«at» b' p'=>exact h
  |whole b'=>exact h
  |bad st=>trivial
 |whole h' b=>exact h
 |bad st=>exact h
theorem sk:∀ (t:af) {s:cu},hY s→hY (au s t).1
 |[],s,h=>h
 |c::r,s,h=>by
  cases hd:s.done with
  |true=>rw [ce hd];exact h
  |false=>rw [bJ hd];exact sk r (FP h)
theorem bn.ph{w:World}{O:Nat→Prop}{g:Nat}{s:cu}(h:bn w O g s):∃ hd ln k l c x vB ch cm,eM w g s.phase s.status hd ln k l c x vB ch cm:=by
 obtain⟨q,_,_⟩:=h
 cases s with
 |idle=>obtain⟨a1,a2,a3,a4,a5,a6,a7,a8,a9,h⟩:=q;exact⟨_,_,_,_,_,_,_,_,_,h⟩
 |head h' L=>obtain⟨a1,a2,a3,a4,a5,a6,a7,a8,a9,a10,h,_⟩:=q;exact⟨_,_,_,_,_,_,_,_,_,h⟩
 |len h' b=>obtain⟨a1,a2,a3,a4,a5,h,_⟩:=q;exact⟨_,_,_,_,_,_,_,_,_,h⟩
 |chunk h' b p=>obtain⟨a1,a2,a3,a4,a5,a6,h,_⟩:=q;exact⟨_,_,_,_,_,_,_,_,_,h⟩
 |whole h' b=>obtain⟨a1,a2,a3,a4,a5,a6,h,_⟩:=q;exact⟨_,_,_,_,_,_,_,_,_,h⟩
 |bad st=>obtain⟨a1,a2,a3,a4,a5,a6,a7,a8,a9,h⟩:=q;exact⟨_,_,_,_,_,_,_,_,_,h⟩
theorem ya(w:World)(O:Nat→Prop)(g:Nat)(c:UInt8)(s s':cu)(hI:bn w O g s)(h2:s.phase=2)(hm:Calls Tryz.prog 77 #[.pointer (some ⟨g,0,none⟩),.int .u8 c.toNat] w (av w O g s')):
 Calls Tryz.prog 40 #[.pointer (some ⟨g,0,none⟩),.int .u8 c.toNat] w (av w O g s'):=by
 obtain⟨hd,ln,k,l,cl,x,vB,ch,cm,hK⟩:=hI.ph;rw [h2] at hK;have hgl:=Bk.lt hK;have hc:=Bk.all hK;have HM:=ns hm;clear hI h2 hK hm;go_in;go_wp2_with fail;refine HM.out.mono ?_;rintro e w2 ⟨rfl,h2⟩;have H2:=ns h2;clear h2 hc;go_wp2_with fail
 go_end0
 exact⟨rfl,H2.out⟩
theorem nr{h:Hd}{L:af}{c:UInt8}(hc:c=10)(h13:¬L.getLast?=some 13):dK h L c=.bad 400:=by unfold dK;rw [if_pos hc,eC h13]
theorem sS{h:Hd}{L:af}{c:UInt8}(hc:c=10)(h13:L.getLast?=some 13):dK h L c=if (bf h L.dropLast).status≠0 then .bad (bf h L.dropLast).status else if (bf h L.dropLast).whole=true then cz (bf h L.dropLast) else .head (bf h L.dropLast) []:=by unfold dK;rw [if_pos hc,fp h13]
theorem nD{h:Hd}{L:af}{c:UInt8}(hc:¬c=10):dK h L c=if 256 < bO L c then .bad h.long else .head h (L++[c]):=by unfold dK;rw [if_neg hc]
theorem wq(w:World)(O:Nat→Prop)(g:Nat)(c:UInt8)(s:cu)(hI:bn w O g s)(ho:bI s)(hd:s.done=false):
 Calls Tryz.prog 40 #[.pointer (some ⟨g,0,none⟩),.int .u8 c.toNat] w (av w O g (fi s c)):=by
 cases s with
 |idle=>
  show Calls _ _ _ _ (av w O g (dK Hd.new [] c));by_cases h10:c=10
  ·rw [nr h10 (by simp)];exact GZ w O g c hI h10
  ·rw [nD h10];by_cases h13:c=13
   ·rw [if_neg (by unfold bO;rw [if_pos h13];decide)];exact Gp w O g c hI h13
   ·rw [if_neg (by unfold bO;rw [if_neg h13];decide)];exact Hv w O g c hI h10 h13
 |head h L=>
  show Calls _ _ _ _ (av w O g (dK h L c));have hh:=ho.2;by_cases h10:c=10
  ·by_cases hl:L.getLast?=some 13
   ·rw [sS h10 hl];exact Ia w O g c h L hI hh hl h10
   ·rw [nr h10 hl];by_cases h0:L.length=0
    ·have:=List.eq_nil_of_length_eq_zero h0;subst this;exact Ih w O g c h hI h10
    ·exact Hp w O g c h L hI hh (by omega) (ju hl) h10
  ·rw [nD h10];by_cases h13:c=13
   ·have e:bO L c=L.length:=by unfold bO;rw [if_pos h13]
    rw [e];by_cases hk:256 < L.length
    ·rw [if_pos hk]
     cases hst:h.started with
     |true=>rw [show h.long=431 from by unfold Hd.long;rw [if_pos hst]];exact zV w O g c h L hI hh h13 hk hst
     |false=>rw [show h.long=414 from by unfold Hd.long;rw [if_neg (by rw [hst];decide)]];exact vV w O g c h L hI hh h13 hk hst
    ·rw [if_neg hk];exact Fw w O g c h L hI hh h13 hk
   ·have e:bO L c=L.length+1:=by unfold bO;rw [if_neg h13]
    rw [e];by_cases hk:256 < L.length+1
    ·rw [if_pos hk]
     cases hst:h.started with
     |true=>rw [show h.long=431 from by unfold Hd.long;rw [if_pos hst]];exact AI w O g c h L hI hh h10 h13 hk hst
     |false=>rw [show h.long=414 from by unfold Hd.long;rw [if_neg (by rw [hst];decide)]];exact wz w O g c h L hI hh h10 h13 hk hst
    ·rw [if_neg hk];exact Fl w O g c h L hI hh h10 h13 hk
 |len h b=>exact ya w O g c _ _ hI rfl (rM w O g h b c hI ho.2.1 (by have:=ho.2.2.1;have:=ho.2.2.2;omega))
 |chunk h b p=>exact ya w O g c _ _ hI rfl (oS w O g h b p c hI ho.2.1 ho.2.2)
 |whole h b=>cases hd
 |bad st=>cases hd
theorem bn.no{w w':World}{O:Nat→Prop}{g:Nat}{s:cu}(h:bn w O g s)(hs:Sm No w w'):bn w' O g s:=by
 refine⟨?_,h.og,fun x hx=>Nat.lt_of_lt_of_le (h.lt x hx) hs.size⟩;have q:=h.q
 cases s with
 |idle=>obtain⟨a1,a2,a3,a4,a5,a6,a7,a8,a9,h⟩:=q;exact⟨_,_,_,_,_,_,_,_,_,Bk.sm h hs (fun e=>e)⟩
 |head h' L=>obtain⟨a1,a2,a3,a4,a5,a6,a7,a8,a9,a10,h,h2,h3,h4⟩:=q;exact⟨_,_,_,_,_,_,_,_,_,_,Bk.sm h hs (fun e=>e),h2.no hs,aa h3 hs (fun _ _ e=>e),h4⟩
 |len h' b=>obtain⟨a1,a2,a3,a4,a5,h,h2,h3,h4⟩:=q;exact⟨_,_,_,_,_,Bk.sm h hs (fun e=>e),h2.no hs,aa h3 hs (fun _ _ e=>e),h4⟩
 |chunk h' b p=>obtain⟨a1,a2,a3,a4,a5,a6,h,h2,⟨b1,b2,b3,b4,b5⟩,h4⟩:=q;exact⟨_,_,_,_,_,_,Bk.sm h hs (fun e=>e),h2.no hs,⟨b1,b2,b3,b4.no hs,b5⟩,h4⟩
 |whole h' b=>obtain⟨a1,a2,a3,a4,a5,a6,h,h2,h3,h4⟩:=q;exact⟨_,_,_,_,_,_,Bk.sm h hs (fun e=>e),h2.no hs,aa h3 hs (fun _ _ e=>e),h4⟩
 |bad st=>obtain⟨a1,a2,a3,a4,a5,a6,a7,a8,a9,h⟩:=q;exact⟨_,_,_,_,_,_,_,_,_,Bk.sm h hs (fun e=>e)⟩
theorem bn.imp{w:World}{O P:Nat→Prop}{g:Nat}{s:cu}(h:bn w O g s)(hi:∀ x,O x→P x)(lt:∀ x,P x→x < w.heap.size):bn w P g s:=⟨h.q.imp hi,hi _ h.og,lt⟩
def nx(w:World)(O:Nat→Prop)(g:Nat)(p:cu × Nat)(e:Ending)(w':World):Prop:=e=.returned (.int .i64 p.2)∧bn w' (aA O w w') g p.1∧Sm O w w'
def I1(w:World)(O:Nat→Prop)(g:Nat)(s:cu)(l:af)(nv kv:Value)(wr:World):Prop:=
 ∃ (k:Nat) (s':cu),k≤l.length∧kv=.int .i64 k∧nv=.int .i64 k∧au s l=((au s' (l.drop k)).1,(au s' (l.drop k)).2+k)∧bI s'∧bn wr (aA O w wr) g s'∧Sm O w wr
def IZ(w:World)(O:Nat→Prop)(g:Nat)(s:cu)(l:af)(nv iv:Value)(wr:World):Prop:=
 (iv=.int .i64 0∧nv=.int .i64 0∧wr=w)∨(iv=.int .i64 1∧∃ s',nv=.int .i64 l.length∧au s l=(s',l.length)∧bn wr (aA O w wr) g s'∧Sm O w wr)
theorem kQ{s:cu}:(s.done=true→3≤s.phase)∧(s.done=false→s.phase < 3):=by cases s<;>simp [cu.done,cu.phase]
theorem FE{s s':cu}{l:af}{k:Nat}(h:au s l=((au s' (l.drop k)).1,(au s' (l.drop k)).2+k))(hk:k < l.length)(hd:s'.done=false):
 au s l=((au (fi s' l[k]) (l.drop (k+1))).1,(au (fi s' l[k]) (l.drop (k+1))).2+(k+1)):=by
 rw [h,List.drop_eq_getElem_cons hk,bJ hd];simp only [Prod.mk.injEq,true_and];omega
theorem sU (w:World) (O:Nat→Prop) (g rb:Nat) (s:cu) (A:Option Addr) (cp:Nat) (l:af) (hI:bn w O g s) (ho:bI s) (hrb:rb < w.heap.size) (hrO:¬O rb) (hcell:w.cell? ⟨rb,0,none⟩=some (.slice A l.length cp))
 (hR:ar w A (l.map aM)) (hA:∀ a,A=some a→l≠[]→¬O a.block) (hl:l.length≤1000000):
 Calls Tryz.prog 25 #[.pointer (some ⟨g,0,none⟩),.slice (some ⟨rb,0,none⟩) 1 1] w (nx w O g (au s l)):=by
 have H:=ns (BT hI (BT ho (BT hR (BT hA (BT hcell hrO)))));obtain⟨P,hP⟩:=Iu (au s l);rw [hP];have HP:=ns hP;have hgl:=(hI.lt g hI.og);clear hI ho hR hA hrO hP;go_in;go_wp2_with fail
 go_loopw [5,6] (fun n i wr=>IZ w O g s l n i wr) (fun _ i _=>1-(intOf i).toNat)
 case atStart=>exact Or.inl ⟨rfl,rfl,rfl⟩
 case round=>
  rcases hrel with ⟨rfl,rfl,rfl⟩|⟨rfl,s',rfl,hf,hI,hsm⟩
  ·obtain⟨wo,rfl⟩:∃ wo:World,wo=wr:=⟨_,rfl⟩;go_wp2_with fail
   go_loopw [5,7] (fun n k wr=>I1 wo O g s l n k wr) (fun _ k _=>l.length-(intOf k).toNat)
   case atStart=>exact⟨0,s,Nat.zero_le _,rfl,rfl,by simp,H.out.2.1,H.out.1.imp aA.le (aA.lt H.out.1.lt (Nat.le_refl _)),Sm.refl _ _⟩
   case round=>
    obtain⟨k,s',hk,rfl,rfl,hf,ho',hI',hsm⟩:=hrel;have hcell:=hsm.keep hrb H.out.2.2.2.2.2 H.out.2.2.2.2.1;obtain⟨hd,ln,kk,ll,cl,x,vB,ch,cm,hK⟩:=hI'.ph;have hgl2:=Bk.lt hK;have hc:=Bk.all hK;have HI:=ns (BT hf (BT ho' (BT hI' hsm)));clear hf ho' hI' hsm hK;have j0:(0:Int)≤(k:Int):=by omega
    by_cases hlt:k < l.length
    ·have j1:(k:Int) < (l.length:Int):=by omega
     cases hdn:s'.done with
     |true=>
      have hp:=kQ.1 hdn;obtain⟨ph,hph⟩:=Iu s'.phase;rw [hph] at hp hc;have HF:=ns (show P=(s',k) from by rw [←HP.out,HI.out.1,ce hdn];simp);clear hph hdn;go_wp2_with fail;go_ret;rw [HF.out];exact⟨rfl,HI.out.2.2.1,HI.out.2.2.2⟩
     |false=>
      have hp:=kQ.2 hdn;obtain⟨ph,hph⟩:=Iu s'.phase;rw [hph] at hp hc;have hp2:¬3≤ph:=by omega
      obtain⟨bb,off,hAe,hbb,r1⟩:=(H.out.2.2.1.sm HI.out.2.2.2 (fun a e=>H.out.2.2.2.1 a e (fun h0=>by rw [h0] at hlt;exact absurd hlt (Nat.not_lt_zero _)))).at (j:=k) (u:=.int .u8 (l[k]).toNat) (by simp [hlt,aM]);subst hAe;obtain⟨c,hcc⟩:=Iu (l[k]);rw [hcc] at r1;have HN:=ns (show au s l=((au (fi s' c) (l.drop (k+1))).1,(au (fi s' c) (l.drop (k+1))).2+(k+1)) from by rw [←hcc];exact FE HI.out.1 hlt hdn);have HO:=ns (wq wr (aA O wo wr) g c s' HI.out.2.2.1 HI.out.2.1 hdn);clear hph hdn hcc;go_wp2_with fail;refine HO.out.mono ?_;rintro e w2 ⟨rfl,hI2,hs2⟩;have H2:=ns (BT (hI2.imp (aA.up HI.out.2.2.2.size hs2.size) (aA.lt H.out.1.lt (Nat.le_trans HI.out.2.2.2.size hs2.size))) (HI.out.2.2.2.up hs2));clear hI2 hs2 hc r1 hcell;go_wp2_with fail;exact⟨⟨k+1,fi s' c,by omega,by go_num,by go_num,HN.out,rz HI.out.2.1,H2.out.1,H2.out.2⟩,by simp [intOf];omega⟩
    ·have hkl:k=l.length:=by omega
     have HF:=ns (show au s l=(s',l.length) from by rw [HI.out.1,List.drop_of_length_le (by omega)];simp [au,hkl]);subst hkl;clear hc;go_wp2_with fail;exact⟨Or.inr ⟨rfl,s',rfl,HF.out,HI.out.2.2.1,HI.out.2.2.2⟩,by decide⟩
  ·have HI:=ns (BT hf (BT hI hsm));clear hf hI hsm;go_wp2_with fail;go_ret;rw [←HP.out,HI.out.1];exact⟨rfl,HI.out.2.1,HI.out.2.2⟩
end Go.Proofs.YtcflkcbogofgbaaGreatDoor
