import Derived.Test.YtadcjgopaadfjaaGreatDoorQV
import Derived.Test.YtadcjgopaadfjaaGreatDoorQT
import Derived.Test.YtadcjgopaadfjaaGreatDoorQN
import Derived.Deep.DrawnRows
namespace Go.Proofs.YtadcjgopaadfjaaGreatDoor
open Go.RowKit Go.Proofs
theorem Ef{l:List ah}{n:Int}(h:lM l=(n,0))(hl:∀ x∈l,x.length≤100000):0≤n∧n≤2048:=by
 unfold lM at h;split at h
 ·injection h with _ h;(first|exact absurd h (by decide)|simp at h)
 ·rename_i t r
  split at h
  ·split at h
   ·injection h with _ h;(first|exact absurd h (by decide)|simp at h)
   ·injection h with h _
    rename_i g
    have:=pS t (hl t (by simp));omega
  ·injection h with _ h;(first|exact absurd h (by decide)|simp at h)
theorem CH{m:Int}{fs:List aM}(hL:fT fs)(h:(bC m fs).2.2=0):((bC m fs).1=0∨(bC m fs).1=1∨(bC m fs).1=2)∧0≤(bC m fs).2.1∧(bC m fs).2.1≤2048:=by
 by_cases h1:0 < (ak fs gS).length
 ·rw [pr h1];exact⟨Or.inr (Or.inr rfl),Int.le_refl 0,by show (0:Int)≤2048;decide⟩
 ·by_cases h2:0 < (ak fs eH).length
  ·rw [oS h1 h2] at h ⊢;refine⟨Or.inr (Or.inl rfl),?_⟩;have hlt:=hL.light eH;dsimp only at h ⊢;unfold sW at h ⊢
   cases ht:aO (ar (ak fs eH)) with
   |none=>rw [ht] at h;(first|exact absurd h (by decide)|simp at h)
   |some l=>
    rw [ht] at h;dsimp only at h ⊢;have e:lM l=((lM l).1,0):=by rw [←h]
    exact Ef e (fun x hx=>Nat.le_trans (hlt.toks ht x hx) (by decide))
  ·rw [sr h1 h2];exact⟨Or.inl rfl,Int.le_refl 0,by show (0:Int)≤2048;decide⟩
structure rH (h:qN):Prop where
 kind:h.kind=0∨h.kind=1∨h.kind=2
 lo:0≤h.len
 hi:h.len≤2048
theorem Ez{m:Int}{fs:List aM}(hL:fT fs)(h:(gW m fs).2=0):rH (gW m fs).1:=by
 cases h1:jp m (ak fs ji) with
 |false=>rw [iQ h1] at h;(first|exact absurd h (by decide)|simp at h)
 |true=>
  by_cases h2:(bC m fs).2.2=0
  ·obtain⟨g1,g2,g3⟩:=CH hL h2;by_cases h3:aO (ar (ak fs lJ))=none
   ·rw [tZ h1 h2 h3] at h;(first|exact absurd h (by decide)|simp at h)
   ·rw [rx h1 h2 h3] at h ⊢;split at h
    ·rename_i g
     rw [if_pos g];split at h
     ·(first|exact absurd h (by decide)|simp at h)
     ·rename_i g4
      rw [if_neg g4];exact⟨g1,g2,g3⟩
    ·rename_i g
     rw [if_neg g];exact⟨g1,g2,g3⟩
  ·rw [ek h1 h2] at h;exact absurd h h2
structure il (h:Hd):Prop where
 ok:kP h
 isx:∀ x∈h.fields,oz x=true
theorem kE:il Hd.new:=⟨⟨by decide,by decide,by decide,by decide,Or.inl rfl⟩,fun x hx=>by cases hx⟩
theorem C3{fs:List aM}{x:aM}(h:(bh fs [x]).2.2=0):(bh fs [x]).1=fs++[x]∧oz x=true∧fs.length < 24:=by
 unfold bh at h ⊢;by_cases h1:oz x=false
 ·rw [if_pos h1] at h;(first|exact absurd h (by decide)|simp at h)
 ·rw [if_neg h1] at h ⊢;by_cases h2:24≤fs.length
  ·rw [if_pos h2] at h;(first|exact absurd h (by decide)|simp at h)
  ·rw [if_neg h2];exact⟨rfl,by simpa using h1,by omega⟩
theorem zP{h:Hd}{l:List ah}(ho:il h)(hz:(bH h l).2=0):il (bH h l).1∧(bH h l).1.whole=h.whole:=by
 by_cases h3:l.length=3
 ·obtain⟨m,s,v,rfl⟩:=EL h3
  cases ht:bo m with
  |false=>rw [jO ht] at hz;(first|exact absurd hz (by decide)|simp at hz)
  |true=>
   by_cases hv:(fg v).1=0
   ·rw [gV ht hv] at hz ⊢
    cases hT:dJ m s with
    |mk o c=>
     rw [hT] at hz
     cases o with
     |none=>
      dsimp only at hz;split at hz<;>(first|exact absurd hz (by decide)|simp at hz)
     |some t=>
      dsimp only;refine⟨⟨⟨ho.ok.len,ho.ok.size,ho.ok.bytes,ho.ok.empty,?_⟩,ho.isx⟩,rfl⟩;unfold qT;dsimp only;split
      ·exact ho.ok.minor
      ·exact Or.inr rfl
   ·rw [gY ht hv] at hz;exact absurd hz hv
 ·rw [jL h3] at hz;(first|exact absurd hz (by decide)|simp at hz)
theorem il.more{h:Hd}(ho:il h){n:Nat}(hn:¬1024 < h.bytes+n+2):il (h.more n):=
 ⟨⟨ho.ok.len,by show oq h.fields≤h.bytes+n+2;have:=ho.ok.size;omega,by show h.bytes+n+2≤1024;omega,ho.ok.empty,ho.ok.minor⟩,ho.isx⟩
theorem EJ{h:Hd}{s:ah}(ho:il h)(hn:¬1024 < h.bytes+s.length+2)(hz:(kL (h.more s.length) s).2=0):il (kL (h.more s.length) s).1∧(kL (h.more s.length) s).1.whole=h.whole:=by
 have hm:=ho.more hn;unfold kL at hz ⊢;split at hz
 ·(first|exact absurd hz (by decide)|simp at hz)
 ·rename_i g
  rw [if_neg g];obtain⟨⟨pe,pn,pv⟩,hp⟩:∃ P,bf s=P:=⟨_,rfl⟩;rw [hp] at hz ⊢;dsimp only at hz ⊢;split at hz
  ·(first|exact absurd hz (by decide)|simp at hz)
  ·rename_i g2
   have g3:(bh (h.more s.length).fields [((⟨pn.toArray⟩:ByteArray),(⟨pv.toArray⟩:ByteArray))]).2.2=0:=by simpa using g2
   obtain⟨a1,a2,a3⟩:=C3 g3;have hb:=pd hp;rw [a1];refine⟨⟨⟨?_,?_,hm.ok.bytes,hm.ok.empty,hm.ok.minor⟩,?_⟩,rfl⟩
   ·show ((h.more s.length).fields++_).length≤24;rw [List.length_append];simp only [List.length_singleton];omega
   ·show oq ((h.more s.length).fields++_)≤(h.more s.length).bytes;rw [CC];have e1:(⟨pn.toArray⟩:ByteArray).size=pn.length:=by show pn.toArray.size=_;simp
    have e2:(⟨pv.toArray⟩:ByteArray).size=pv.length:=by show pv.toArray.size=_;simp
    dsimp only;rw [e1,e2];show oq h.fields+_≤h.bytes+s.length+2;have:=ho.ok.size;omega
   ·intro x hx;rcases List.mem_append.1 hx with hx|hx
    ·exact ho.isx x hx
    ·rw [List.mem_singleton.1 hx];exact a2
theorem sV{h:Hd}{s:ah}(ho:il h)(hw:h.whole=false)(hz:(bA h s).2=0):il (bA h s).1∧((bA h s).1.whole=true→rH (bA h s).1.how):=by
 have hlong:h.long≠0:=by unfold Hd.long;split<;>decide
 unfold bA at hz ⊢;split at hz
 ·exact absurd hz hlong
 ·rename_i g1
  rw [if_neg g1];split at hz
  ·exact absurd hz hlong
  ·rename_i g2
   rw [if_neg g2];split at hz
   ·rename_i g3
    rw [if_pos g3];split at hz
    ·rename_i g4
     rw [if_pos g4];split at hz
     ·(first|exact absurd hz (by decide)|simp at hz)
     ·rename_i g5
      have hm:=ho.more (n:=0) (by rw [g4] at g2;exact g2);refine⟨⟨⟨hm.ok.len,hm.ok.size,hm.ok.bytes,by show h.empty+1≤4;omega,hm.ok.minor⟩,hm.isx⟩,fun e=> ?_⟩;have:h.whole=true:=e;rw [hw] at this;cases this
    ·rename_i g4
     rw [if_neg g4];obtain⟨a,b⟩:=zP (ho.more g2) hz;refine⟨a,fun e=> ?_⟩;rw [b] at e;have:h.whole=true:=e;rw [hw] at this;cases this
   ·rename_i g3
    rw [if_neg g3];split at hz
    ·rename_i g4
     rw [if_pos g4];have hm:=ho.more (n:=0) (by rw [g4] at g2;exact g2);exact⟨⟨⟨hm.ok.len,hm.ok.size,hm.ok.bytes,hm.ok.empty,hm.ok.minor⟩,hm.isx⟩,fun _=>Ez ho.ok.light hz⟩
    ·rename_i g4
     rw [if_neg g4];obtain⟨a,b⟩:=EJ ho g2 hz;refine⟨a,fun e=> ?_⟩;rw [b,hw] at e;cases e
def cK:cP→Prop
 | .idle=>True
 | .head h L=>il h∧wm h L
 | .len h b=>il h∧h.how.kind=1∧(b.length:Int) < h.how.len∧h.how.len≤2048
 | .chunk h b p=>il h∧h.how.kind=2∧lN b p
 | .whole h b=>il h∧b.length≤2048
 | .bad _=>True
theorem xU{h:Hd}(ho:il h)(hh:rH h.how):cK (dZ h):=by
 by_cases h0:h.how.kind=0∨(h.how.kind=1∧h.how.len=0)
 ·rw [C2 h0];exact⟨ho,Nat.zero_le _⟩
 ·by_cases h1:h.how.kind=1
  ·rw [Bv h0 h1];refine⟨ho,h1,?_,hh.hi⟩;have h2:h.how.len≠0:=fun e=>h0 (Or.inr ⟨h1,e⟩);have:=hh.lo;show (0:Int) < _;omega
  ·rw [BL h0 h1];refine⟨ho,?_,⟨Nat.zero_le _,Nat.zero_le 65⟩⟩;rcases hh.kind with e|e|e
   ·exact absurd (Or.inl e) h0
   ·exact absurd e h1
   ·exact e
theorem kf{h:Hd}{s:ah}(hw:h.whole=false)(hs:h.status=0):bw h s= {(bA h s).1 with status:=(bA h s).2}:=by unfold bw;rw [if_pos ⟨hw,hs⟩]
theorem tw{h:Hd}{L:ah}{c:UInt8}(hg:il h)(ho:wm h L):cK (eP h L c):=by
 unfold eP;split
 ·split
  ·trivial
  ·rename_i s hs
   rw [kf ho.whole ho.status];dsimp only;split
   ·trivial
   ·rename_i g
    have hz:(bA h s).2=0:=by simpa using g
    obtain⟨a,b⟩:=sV hg ho.whole hz;have a2:il {(bA h s).1 with status:=(bA h s).2}:=⟨⟨a.ok.len,a.ok.size,a.ok.bytes,a.ok.empty,a.ok.minor⟩,a.isx⟩;split
    ·rename_i hw
     exact xU a2 (b hw)
    ·rename_i hw
     refine⟨a2,a2.ok,Nat.zero_le _,?_,hz⟩
     cases e:(bA h s).1.whole with
     |true=>exact absurd e hw
     |false=>rfl
 ·split
  ·trivial
  ·rename_i g
   exact⟨hg,ho.ok,vZ g,ho.whole,ho.status⟩
theorem wX{s:cP}{c:UInt8}(h:cK s):cK (lI s c):=by
 cases s with
 |idle=>exact tw kE ⟨kE.ok,Nat.zero_le _,rfl,rfl⟩
 |head h' L=>exact tw h.1 h.2
 |len h' b=>
  obtain⟨h1,h2,h3,h4⟩:=h;show cK (if ((b.length+1:Nat):Int)=h'.how.len then .whole h' (b++[c]) else .len h' (b++[c]));split
  ·refine⟨h1,?_⟩;rw [List.length_append,List.length_singleton];omega
  ·refine⟨h1,h2,?_,h4⟩;rw [List.length_append,List.length_singleton];omega
 |chunk h' b p=>
  obtain⟨h1,h2,h3⟩:=h;show cK (dy h' (fM b p c))
  cases hq:fM b p c with
  |«at» b' p'=>exact⟨h1,h2,uP h3 hq⟩
  |whole b'=>exact⟨h1,by rw [yI hq];exact h3.body⟩
  |bad st=>trivial
 |whole h' b=>exact h
 |bad st=>exact h
theorem sq:∀ (t:ah) {s:cP},cK s→cK (aS s t).1
 |[],s,h=>h
 |c::r,s,h=>by
  cases hd:s.done with
  |true=>rw [ez hd];exact h
  |false=>rw [da hd];exact sq r (wX h)
theorem mh:∀ (ps l r:List ah),dn (some l) ps=some r→wt r≤wt l+wt ps
 |[],l,r,h=>by
  injection h with h;subst h;simp [wt]
 |p::ps,l,r,h=>by
  rw [gP] at h;rw [qG];unfold fu at h;dsimp only at h;split at h
  ·have:=mh ps l r h;omega
  ·split at h
   ·split at h
    ·rw [jz] at h;cases h
    ·have:=mh ps _ r h;have:=qq l;omega
   ·have:=mh ps _ r h;rw [qw] at this;omega
theorem zB{s p:ah}(h:bt s=some p):p.length≤s.length+2:=by
 unfold bt at h;split at h
 ·cases hf:dn (some []) (bL 47 s) with
  |none=>rw [hf] at h;cases h
  |some l=>
   rw [hf] at h;injection h with h;subst h;have h1:=mh _ _ _ hf;have h2:=xA s;have h3:(ed l).length=wt l:=sh l;have h4:wt ([]:List ah)=0:=rfl;show (nl ((bL 47 s).getLastD []) (ed l)).length≤s.length+2;unfold nl;split
   ·rw [List.length_append,List.length_singleton];omega
   ·omega
 ·cases h
theorem xa{s p q:ah}(h:fa s=some (p,q)):p.length≤s.length+2∧q.length≤s.length:=by
 unfold fa at h;split at h
 ·unfold AS at h
  cases hd:dA (s.takeWhile va) with
  |none=>rw [hd] at h;cases h
  |some d=>
   rw [hd] at h;dsimp only at h;have h1:=kj _ _ d (Nat.le_refl _) hd;have h2:(s.takeWhile va).length≤s.length:=(List.takeWhile_prefix va).length_le;unfold Fd at h
   cases hc:bt d with
   |none=>rw [hc] at h;cases h
   |some x=>
    rw [hc] at h;injection h with h;injection h with ha hb;subst ha hb;have h3:=zB hc;refine⟨by omega,?_⟩;rw [List.length_drop];omega
 ·cases h
theorem Do(r:ah):(vA r).length≤r.length+1:=by
 unfold vA;split
 ·simp
 ·simp
theorem Dp{m s:ah}{t:Tg}{c:Int}(h:dJ m s=(some t,c)):t.path.length≤210∧t.query.length≤210:=by
 unfold dJ at h;split at h
 ·cases h
 ·rename_i hl
  split at h
  ·split at h
   ·injection h with h;injection h with h;subst h;exact⟨Nat.zero_le _,Nat.zero_le _⟩
   ·cases h
  ·split at h
   ·injection h with h;injection h with h;subst h;exact⟨Nat.zero_le _,Nat.zero_le _⟩
   ·split at h
    ·split at h
     ·rename_i p q ho
      injection h with h;injection h with h;subst h;have:=xa ho;exact⟨by show p.length≤210;omega,by show q.length≤210;omega⟩
     ·cases h
    ·split at h
     ·injection h with h _;unfold lS at h;split at h
      ·unfold Dk at h
       cases ho:fa (vA ((s.drop 7).drop ((s.drop 7).takeWhile lL).length)) with
       |none=>rw [ho] at h;cases h
       |some x=>
        obtain⟨p,q⟩:=x;rw [ho] at h;injection h with h;subst h;have h1:=xa ho;have h2:(vA ((s.drop 7).drop ((s.drop 7).takeWhile lL).length)).length≤s.length+1:=by
         have h3:((s.drop 7).drop ((s.drop 7).takeWhile lL).length).length≤s.length:=by rw [List.length_drop,List.length_drop];omega
         exact Nat.le_trans (Do _) (by omega)
        exact⟨by show p.length≤210;omega,by show q.length≤210;omega⟩
      ·cases h
     ·cases h
def lT(h:Hd):Prop:=h.method.length≤300∧h.target.path.length≤300∧h.target.query.length≤300
theorem zo{h:Hd}{s:ah}(ho:lT h)(hs:s.length≤256):lT (bH h (mR s)).1:=by
 by_cases h3:(mR s).length=3
 ·obtain⟨m,t,v,he⟩:=EL h3;have hm:m.length≤s.length+1:=ru (by rw [he];simp);rw [he]
  cases ht:bo m with
  |false=>rw [jO ht];exact ho
  |true=>
   by_cases hv:(fg v).1=0
   ·rw [gV ht hv]
    cases hT:dJ m t with
    |mk o c=>
     cases o with
     |none=>exact ho
     |some t'=>
      have:=Dp hT;exact⟨by show m.length≤300;omega,by show t'.path.length≤300;omega,by show t'.query.length≤300;omega⟩
   ·rw [gY ht hv];exact ho
 ·rw [jL h3];exact ho
theorem sa{h:Hd}{s:ah}(ho:lT h):lT (bw h s):=by
 unfold bw;split
 ·show lT {(bA h s).1 with status:=(bA h s).2};have h1:lT (bA h s).1:=by
   unfold bA;split
   ·exact ho
   ·split
    ·exact ho
    ·split
     ·split
      ·exact ho
      ·exact zo (h:=h.more s.length) ho (by omega)
     ·split
      ·exact ho
      ·unfold kL;split
       ·exact ho
       ·exact ho
  exact h1
 ·exact ho
def iz:cP→Prop
 | .head h _=>lT h
 | .len h _=>lT h
 | .chunk h _ _=>lT h
 | .whole h _=>lT h
 |_=>True
theorem xP{h:Hd}(ho:lT h):iz (dZ h):=by
 unfold dZ;split
 ·exact ho
 ·split
  ·exact ho
  ·exact ho
theorem rW{h:Hd}{L:ah}{c:UInt8}(ho:lT h):iz (eP h L c):=by
 unfold eP;split
 ·split
  ·trivial
  ·split
   ·trivial
   ·split
    ·exact xP (sa ho)
    ·exact sa ho
 ·split
  ·trivial
  ·exact ho
theorem Dz{s:cP}{c:UInt8}(h:iz s):iz (lI s c):=by
 cases s with
 |idle=>exact rW ⟨by decide,by decide,by decide⟩
 |head h' L=>exact rW h
 |len h' b=>
  show iz (if ((b.length+1:Nat):Int)=h'.how.len then .whole h' (b++[c]) else .len h' (b++[c]));split<;>exact h
 |chunk h' b p=>
  show iz (dy h' (fM b p c))
  cases fM b p c with
  |«at» b' p'=>exact h
  |whole b'=>exact h
  |bad st=>trivial
 |whole h' b=>exact h
 |bad st=>exact h
theorem rN:∀ (t:ah) {s:cP},iz s→iz (aS s t).1
 |[],s,h=>h
 |c::r,s,h=>by
  cases hd:s.done with
  |true=>rw [ez hd];exact h
  |false=>rw [da hd];exact rN r (Dz h)
theorem jk.ph{w:World}{O:Nat→Prop}{g:Nat}{s:cP}(h:jk w O g s):∃ hd ln k l c x vB ch cm,nZ w g s.phase s.status hd ln k l c x vB ch cm:=by
 obtain⟨q,_,_⟩:=h
 cases s with
 |idle=>obtain⟨a1,a2,a3,a4,a5,a6,a7,a8,a9,h⟩:=q;exact⟨_,_,_,_,_,_,_,_,_,h⟩
 |head h' L=>obtain⟨a1,a2,a3,a4,a5,a6,a7,a8,a9,a10,h,_⟩:=q;exact⟨_,_,_,_,_,_,_,_,_,h⟩
 |len h' b=>obtain⟨a1,a2,a3,a4,a5,h,_⟩:=q;exact⟨_,_,_,_,_,_,_,_,_,h⟩
 |chunk h' b p=>obtain⟨a1,a2,a3,a4,a5,a6,h,_⟩:=q;exact⟨_,_,_,_,_,_,_,_,_,h⟩
 |whole h' b=>obtain⟨a1,a2,a3,a4,a5,a6,h,_⟩:=q;exact⟨_,_,_,_,_,_,_,_,_,h⟩
 |bad st=>obtain⟨a1,a2,a3,a4,a5,a6,a7,a8,a9,h⟩:=q;exact⟨_,_,_,_,_,_,_,_,_,h⟩
theorem Ca{h:Hd}{L:ah}{c:UInt8}(hc:c=10)(h13:¬L.getLast?=some 13):eP h L c=.bad 400:=by unfold eP;rw [if_pos hc,hU h13]
theorem Cg{h:Hd}{L:ah}{c:UInt8}(hc:c=10)(h13:L.getLast?=some 13):eP h L c=if (bw h L.dropLast).status≠0 then .bad (bw h L.dropLast).status else if (bw h L.dropLast).whole=true then dZ (bw h L.dropLast) else .head (bw h L.dropLast) []:=by unfold eP;rw [if_pos hc,iM h13]
theorem Cc{h:Hd}{L:ah}{c:UInt8}(hc:¬c=10):eP h L c=if 256 < cG L c then .bad h.long else .head h (L++[c]):=by unfold eP;rw [if_neg hc]
theorem jk.no{w w':World}{O:Nat→Prop}{g:Nat}{s:cP}(h:jk w O g s)(hs:Sm No w w'):jk w' O g s:=by
 refine⟨?_,h.og,fun x hx=>Nat.lt_of_lt_of_le (h.lt x hx) hs.size⟩;have q:=h.q
 cases s with
 |idle=>obtain⟨a1,a2,a3,a4,a5,a6,a7,a8,a9,h⟩:=q;exact⟨_,_,_,_,_,_,_,_,_,Bk.sm h hs (fun e=>e)⟩
 |head h' L=>obtain⟨a1,a2,a3,a4,a5,a6,a7,a8,a9,a10,h,h2,h3,h4⟩:=q;exact⟨_,_,_,_,_,_,_,_,_,_,Bk.sm h hs (fun e=>e),h2.no hs,ae h3 hs (fun _ _ e=>e),h4⟩
 |len h' b=>obtain⟨a1,a2,a3,a4,a5,h,h2,h3,h4⟩:=q;exact⟨_,_,_,_,_,Bk.sm h hs (fun e=>e),h2.no hs,ae h3 hs (fun _ _ e=>e),h4⟩
 |chunk h' b p=>obtain⟨a1,a2,a3,a4,a5,a6,h,h2,⟨b1,b2,b3,b4,b5⟩,h4⟩:=q;exact⟨_,_,_,_,_,_,Bk.sm h hs (fun e=>e),h2.no hs,⟨b1,b2,b3,b4.no hs,b5⟩,h4⟩
 |whole h' b=>obtain⟨a1,a2,a3,a4,a5,a6,h,h2,h3,h4⟩:=q;exact⟨_,_,_,_,_,_,Bk.sm h hs (fun e=>e),h2.no hs,ae h3 hs (fun _ _ e=>e),h4⟩
 |bad st=>obtain⟨a1,a2,a3,a4,a5,a6,a7,a8,a9,h⟩:=q;exact⟨_,_,_,_,_,_,_,_,_,Bk.sm h hs (fun e=>e)⟩
theorem jk.imp{w:World}{O P:Nat→Prop}{g:Nat}{s:cP}(h:jk w O g s)(hi:∀ x,O x→P x)(lt:∀ x,P x→x < w.heap.size):jk w P g s:=⟨h.q.imp hi,hi _ h.og,lt⟩
theorem xc{s:cP}:(s.done=true→3≤s.phase)∧(s.done=false→s.phase < 3):=by cases s<;>simp [cP.done,cP.phase]
attribute [local go_sem ↓] Go.wp_at_zero Go.wp_at_succ
theorem Dh{w:World}{B n c:Nat}{A:Option Addr}{l:List aM}(h:w.ownsRow B 143 2 (.slice A n c) l.length (av l)):ec w A l:=by
 rcases aK h with ⟨e,h0,_⟩|⟨b,cap,e,_,_,hb,_,hc,_⟩
 ·exact fun k hk=>absurd hk (by omega)
 ·injection e with e;subst e;exact fun k hk=>by
   obtain⟨h1,h2⟩:=eT l k hk;exact⟨b,0,rfl,hb,by simpa using hc _ _ h1,by simpa using hc _ _ h2⟩
end Go.Proofs.YtadcjgopaadfjaaGreatDoor
