import Derived.Test.YtcflkcbogofgbaaGreatDoorQA
import Derived.Test.YtcflkcbogofgbaaGreatDoorQO
import Derived.Test.YtcflkcbogofgbaaGreatDoorQT
import Derived.Test.YtcflkcbogofgbaaGreatDoorQL
import Derived.Test.YtcflkcbogofgbaaGreatDoorQH
set_option maxHeartbeats 8000000
set_option maxRecDepth 100000
namespace Go.Proofs.YtcflkcbogofgbaaGreatDoor
open Go.RowKit Go.Proofs
def aG(c:UInt8):Int:=if 48≤c.toNat∧c.toNat≤57 then (c.toNat:Int)-48 else if 97≤(iT c).toNat∧(iT c).toNat≤102 then ((iT c).toNat:Int)-87 else -1
def dH(b:Int):List UInt8→Int→Option Int
 |[],n=>some n
 |c::r,n=>if aG c < 0∨b≤aG c then none else dH b r (n * b+aG c)
def ei(b:Int)(m:Nat)(l:List UInt8):Int × Bool:=if l.length < 1∨m < l.length then (0,false) else match dH b l 0 with
 |some n=>(n,true)
 |none=>(0,false)
theorem eF(c:UInt8): -1≤aG c∧aG c≤15:=by
 unfold aG;have:=c.toNat_lt;split
 ·omega
 ·split<;>omega
theorem lH{a b:Int}(h:a=b):Ending.returned (.int .i64 a)=.returned (.int .i64 b):=by rw [h]
theorem ip(c:UInt8)(w:World):Calls Tryz.prog 239 #[.int .u8 c.toNat] w fun e w'=>e=.returned (.int .i64 (aG c))∧w=w':=by
 have hc:=c.toNat_lt;have hl:=(iT c).toNat_lt;obtain⟨n,hn⟩:=Iu ((iT c).toNat);obtain⟨d,hd⟩:=Iu (aG c);have hd2:(if 48≤c.toNat∧c.toNat≤57 then (c.toNat:Int)-48 else if 97≤n∧n≤102 then (n:Int)-87 else -1)=d:=by rw [←hn];exact hd
 have HLow:=ns (fun (w:World)=>hn ▸ nX c w);rw [hn] at hl;rw [hd];have HD:=ns hd2;clear hd hd2 hn;go_in;by_cases h1:48≤c.toNat∧c.toNat≤57
 ·have i1:(48:Int)≤(c.toNat:Int):=by omega
  have i2:(c.toNat:Int)≤57:=by omega
  go_wp2_with fail;go_ret;refine⟨?_,rfl⟩;have:=HD.out;rw [if_pos h1] at this;exact lH this
 ·by_cases h2:97≤n∧n≤102
  ·have i1:(97:Int)≤(n:Int):=by omega
   have i2:(n:Int)≤102:=by omega
   by_cases h3:48≤c.toNat
   ·have i3:(48:Int)≤(c.toNat:Int):=by omega
    have i4:¬(c.toNat:Int)≤57:=by omega
    go_wp2_with (first|(go_at_call 246;refine(HLow.out _).mono ?_;rintro e w2 ⟨rfl,rfl⟩));go_ret;refine⟨?_,rfl⟩;have:=HD.out;rw [if_neg h1,if_pos h2] at this;exact lH (by omega)
   ·have i3:¬(48:Int)≤(c.toNat:Int):=by omega
    go_wp2_with (first|(go_at_call 246;refine(HLow.out _).mono ?_;rintro e w2 ⟨rfl,rfl⟩));go_ret;refine⟨?_,rfl⟩;have:=HD.out;rw [if_neg h1,if_pos h2] at this;exact lH (by omega)
  ·have hr:=HD.out;rw [if_neg h1,if_neg h2] at hr;subst hr;go_wp2_with (first|(go_at_call 246;refine(HLow.out _).mono ?_;rintro e w2 ⟨rfl,rfl⟩))
   all_goals
    first
     |(go_ret;exact⟨rfl,rfl⟩)
     |omega
theorem mR{b:Int}(hb:b=10∨b=16):∀ {l:List UInt8} {a n:Int} {k:Nat},dH b l a=some n→0≤a→a < 16 ^ k→0≤n∧n < 16 ^ (k+l.length)
 |[],a,n,k,h,h0,h1=>by
  unfold dH at h;injection h with h;rw [←h];exact⟨h0,h1⟩
 |c::r,a,n,k,h,h0,h1=>by
  unfold dH at h;split at h
  ·cases h
  ·rename_i g
   have hd:=eF c;have hp:(16:Int) ^ (k+1)=16 ^ k * 16:=Int.pow_succ 16 k;have h2:=mR hb (k:=k+1) h (by rcases hb with rfl|rfl<;>omega) (by rw [hp];rcases hb with rfl|rfl<;>omega);rw [List.length_cons,show k+(r.length+1)=k+1+r.length by omega];exact h2
def IP(s:ByteArray)(b:Int)(w:World)(n i:Value)(wr:World):Prop:=∃ (k:Nat) (a:Int),k≤s.size∧n=.int .i64 a∧i=.int .i64 k∧0≤a∧a < 16 ^ k∧dH b (ab s) 0=dH b ((ab s).drop k) a∧wr=w
theorem qr{s:ByteArray}{b a:Int}{k:Nat}(h:k < s.size):dH b ((ab s).drop k) a=if aG s[k] < 0∨b≤aG s[k] then none else dH b ((ab s).drop (k+1)) (a * b+aG s[k]):=by
 have hk:k < (ab s).length:=by rw [ae];exact h
 rw [List.drop_eq_getElem_cons hk];rfl
theorem mj(s:ByteArray)(hs:s.size≤1000000)(b:Int)(hb:b=10∨b=16)(m:Nat)(hm:m≤15)(w:World):
 Calls Tryz.prog 272 #[.string s,.int .i64 b,.int .i64 m] w fun e w'=>e=.returned (.tuple #[.int .i64 (ei b m (ab s)).1,.bool (ei b m (ab s)).2])∧w=w':=by
 obtain⟨R,hR⟩:=Iu (ei b m (ab s));rw [hR];have HR:=ns hR;clear hR;go_in;by_cases h1:s.size < 1
 ·have i1:(s.size:Int) < 1:=by omega
  go_wp2_with fail;go_ret2;have:=HR.out;unfold ei at this;rw [if_pos (Or.inl (by rw [ae];exact h1))] at this;rw [←this];exact⟨rfl,rfl⟩
 by_cases h2:m < s.size
 ·have i1:¬(s.size:Int) < 1:=by omega
  have i2:(m:Int) < (s.size:Int):=by omega
  go_wp2_with fail;go_ret2;have:=HR.out;unfold ei at this;rw [if_pos (Or.inr (by rw [ae];exact h2))] at this;rw [←this];exact⟨rfl,rfl⟩
 have i1:¬(s.size:Int) < 1:=by omega
 have i2:¬(m:Int) < (s.size:Int):=by omega
 have hR2:=HR.out;unfold ei at hR2;rw [if_neg (by rw [ae];omega)] at hR2;have HR2:=ns hR2;clear hR2;go_wp2_with fail
 go_loopw [8,9,10] (fun n i _ wr=>IP s b w n i wr) (fun _ i _ _=>s.size-(intOf i).toNat)
 case atStart=>exact⟨0,0,Nat.zero_le _,rfl,rfl,by decide,by decide,by rw [List.drop_zero],rfl⟩
 case round=>
  obtain⟨k,a,hk,rfl,rfl,ha0,ha1,hf,rfl⟩:=hrel;have HF:=ns hf;clear hf;by_cases hlt:k < s.size
  ·have hp:(16:Int) ^ k≤16 ^ 14:=by exact_mod_cast Nat.pow_le_pow_right (by decide) (show k≤14 by omega)
   have ha2:a≤72057594037927936:=by omega
   have hd:=eF s[k];have HP:=ns (BT ha1 hp);obtain⟨d,hdd⟩:=Iu (aG s[k]);have HDg:=ns (fun (w:World)=>hdd ▸ ip s[k] w);rw [hdd] at hd;have HST:=ns (hdd ▸ qr (b:=b) (a:=a) hlt);have k1:(0:Int)≤(k:Int):=by omega
   have k2:(k:Int) < (s.size:Int):=by omega
   clear ha1 hp hdd;go_wp2_with fail;refine(HDg.out _).mono ?_;rintro e w2 ⟨rfl,rfl⟩;by_cases hbad:d < 0∨b≤d
   ·have HE:=ns (show ((0:Int),false)=R from by
     have h:=HR2.out;rw [HF.out,HST.out,if_pos hbad] at h;exact h)
    by_cases hn:d < 0
    ·clear hbad;go_wp2_with fail;go_ret2;rw [←HE.out];exact⟨rfl,rfl⟩
    ·have hbd:=hbad.resolve_left hn;clear hbad;go_wp2_with fail;go_ret2;rw [←HE.out];exact⟨rfl,rfl⟩
   ·have hn:¬d < 0:=fun h=>hbad (Or.inl h);have hbd:¬b≤d:=fun h=>hbad (Or.inr h);have HB:=ns hbad;clear hbad;have hab0:0≤a * b:=by rcases hb with rfl|rfl<;>omega
    have hab1:a * b≤a * 16:=by rcases hb with rfl|rfl<;>omega
    have hab2:a * b≤1152921504606846976:=by omega
    have HAB:=ns hab1;clear hab1;go_wp2_with fail;refine⟨⟨k+1,a * b+d,by omega,rfl,by go_num,by omega,?_,?_,rfl⟩,by simp [intOf];omega⟩
    ·have hpw:(16:Int) ^ (k+1)=16 ^ k * 16:=Int.pow_succ 16 k;have h1:=HP.out.1;have h2:=HAB.out;rw [hpw];omega
    ·have h:=HST.out;rw [if_neg HB.out] at h;rw [HF.out,h]
  ·obtain rfl:k=s.size:=by omega
   have HE:=ns (show (a,true)=R from by
    have h:=HR2.out;rw [HF.out,List.drop_of_length_le (by rw [ae];omega)] at h;exact h)
   go_wp2_with fail;go_ret2;rw [←HE.out];exact⟨rfl,rfl⟩
def eG(l:List UInt8):Int × Bool:=ei 10 15 l
def eO(l:List UInt8):Int × Bool:=ei 16 12 l
theorem ut(s:ByteArray)(hs:s.size≤1000000)(w:World):
 Calls Tryz.prog 245 #[.string s] w fun e w'=>e=.returned (.tuple #[.int .i64 (eG (ab s)).1,.bool (eG (ab s)).2])∧w=w':=by
 obtain⟨a,b,h⟩:∃ a b,eG (ab s)=(a,b):=⟨_,_,rfl⟩;have HN:=ns (mj s hs 10 (Or.inl rfl) 15 (by decide) w);have h':ei 10 15 (ab s)=(a,b):=h;rw [h'] at HN;rw [h];go_in;go_wp2_with fail;refine HN.out.mono ?_;rintro e w2 ⟨rfl,rfl⟩;go_wp2_with fail;go_ret2;exact⟨rfl,rfl⟩
theorem DI(s:ByteArray)(hs:s.size≤1000000)(w:World):
 Calls Tryz.prog 240 #[.string s] w fun e w'=>e=.returned (.tuple #[.int .i64 (eO (ab s)).1,.bool (eO (ab s)).2])∧w=w':=by
 obtain⟨a,b,h⟩:∃ a b,eO (ab s)=(a,b):=⟨_,_,rfl⟩;have HN:=ns (mj s hs 16 (Or.inr rfl) 12 (by decide) w);have h':ei 16 12 (ab s)=(a,b):=h;rw [h'] at HN;rw [h];go_in;go_wp2_with fail;refine HN.out.mono ?_;rintro e w2 ⟨rfl,rfl⟩;go_wp2_with fail;go_ret2;exact⟨rfl,rfl⟩
def dO(c:UInt8):Bool:=it c||(c==45||c==46)
def yw:List UInt8→Bool
 |[]=>true
 |c::r=>if c≠58∨5 < r.length then false else (eG r).2&&decide ((eG r).1≤65535)
def bR(s:af):Bool:=if (s.takeWhile dO).length < 1∨100 < (s.takeWhile dO).length then false else yw (s.drop (s.takeWhile dO).length)
theorem fZ(c:UInt8)(r:List UInt8):yw (c::r)=if c≠58∨5 < r.length then false else (eG r).2&&decide ((eG r).1≤65535):=rfl
theorem bQ(q:ByteArray)(f:Nat):ab (q.extract f q.size)=(ab q).drop f:=by rw [aN,List.take_of_length_le (by rw [ae];exact Nat.le_refl _)]
theorem Bn(c:UInt8):dO c=true↔it c=true∨c.toNat=45∨c.toNat=46:=by
 unfold dO;simp [←UInt8.toNat_inj]
theorem gN{c:UInt8}{r:Bool}(h:Hid (it c=r))(w:World):Calls Tryz.prog 213 #[.int .u8 c.toNat] w fun e w'=>e=.returned (.bool r)∧w=w':=by
 rw [←h.out];exact pT c w
theorem DX{s:ByteArray}{a:Int}{b:Bool}(h:Hid (eG (ab s)=(a,b)))(hs:s.size≤1000000)(w:World):Calls Tryz.prog 245 #[.string s] w fun e w'=>e=.returned (.tuple #[.int .i64 a,.bool b])∧w=w':=by
 have:=ut s hs w;rw [h.out] at this;exact this
theorem zz(s:ByteArray)(hs:s.size≤1000000)(w:World):
 Calls Tryz.prog 242 #[.string s] w fun e w'=>e=.returned (.bool (bR (ab s)))∧w=w':=by
 obtain⟨R,hR⟩:=Iu (bR (ab s));rw [hR];have HR:=ns hR;clear hR;go_in;go_wp2_with fail
 go_loop [3] (fun i=>jf dO s i) (fun i=>s.size-(intOf i).toNat)
 case atStart=>exact⟨0,Nat.zero_le _,rfl,by simp⟩
 case round=>
  obtain⟨k,hk,rfl,hall⟩:=hrel;have HA:=ns hall;clear hall;have hkl:k≤s.data.toList.length:=by rw [←ai];exact hk
  by_cases hlt:k < s.size
  ·obtain⟨f,hf⟩:=Iu (it s[k]);have HF:=ns hf;have hb:=Bn s[k]
   cases f
   ·by_cases h45:s[k].toNat=45
    ·have HN:=ns (di HA.out hlt (hb.2 (Or.inr (Or.inl h45))));have e1:((s[k].toNat:Int)==45)=true:=by rw [h45];rfl
     clear hf hb h45;go_wp2_with fail;refine(gN HF _).mono ?_;rintro e w1 ⟨rfl,rfl⟩;go_wp2_with fail;exact⟨⟨k+1,by omega,by go_num,HN.out⟩,by simp [intOf];omega⟩
    ·by_cases h46:s[k].toNat=46
     ·have HN:=ns (di HA.out hlt (hb.2 (Or.inr (Or.inr h46))));have e1:((s[k].toNat:Int)==45)=false:=by rw [h46];rfl
      have e2:((s[k].toNat:Int)==46)=true:=by rw [h46];rfl
      clear hf hb h45 h46;go_wp2_with fail;refine(gN HF _).mono ?_;rintro e w1 ⟨rfl,rfl⟩;go_wp2_with fail;exact⟨⟨k+1,by omega,by go_num,HN.out⟩,by simp [intOf];omega⟩
     ·have e1:((s[k].toNat:Int)==45)=false:=by simp;omega
      have e2:((s[k].toNat:Int)==46)=false:=by simp;omega
      have hno:dO s[k]=false:=by
       cases h:dO s[k] with
       |false=>rfl
       |true=>
        rcases hb.1 h with h|h|h
        ·rw [hf] at h;cases h
        ·exact absurd h h45
        ·exact absurd h h46
      have hW:=bT (p:=dO) hkl HA.out (fun h=>hno);have hn:((ab s).takeWhile dO).length=k:=by
       have:=congrArg List.length hW;rw [List.length_take] at this;unfold ab;omega
      have HN:=ns hn;clear hf hb h45 h46 hno hW hn;go_wp2_with fail;refine(gN HF _).mono ?_;rintro e w1 ⟨rfl,rfl⟩;by_cases hk1:k < 1
      ·have HE:=ns (show false=R from by have h:=HR.out;unfold bR at h;rw [HN.out,if_pos (Or.inl hk1)] at h;exact h);go_wp2_with fail;go_ret;rw [←HE.out];exact⟨rfl,rfl⟩
      by_cases hk2:100 < k
      ·have HE:=ns (show false=R from by have h:=HR.out;unfold bR at h;rw [HN.out,if_pos (Or.inr hk2)] at h;exact h);go_wp2_with fail;go_ret;rw [←HE.out];exact⟨rfl,rfl⟩
      have HE:=ns (show yw ((ab s).drop k)=R from by have h:=HR.out;unfold bR at h;rw [HN.out,if_neg (by omega)] at h;exact h);obtain⟨t,ht⟩:=Iu (s.extract k s.size);have htx:ab t=(ab s).drop k:=by rw [←ht,bQ]
      have htz:t.size=s.size-k:=by rw [←ht,ByteArray.size_extract];omega
      have h0:0 < t.size:=by omega
      have x0:¬t.toList=[]:=by
       rw [ByteArray.toList_eq];intro e;have:t.size=0:=by rw [←ae];unfold ab;rw [e];rfl
       omega
      have x1:t.toList.isEmpty=false:=by
       cases h:t.toList with
       |nil=>exact absurd h x0
       |cons=>rfl
      have hl:(ab t).drop 0=t[0]::(ab t).drop 1:=by
       rw [List.drop_eq_getElem_cons (by rw [ae];exact h0)];rfl
      rw [List.drop_zero] at hl;have HE2:=ns (show yw (t[0]::(ab t).drop 1)=R from by rw [←hl,htx];exact HE.out);have i0:(0:Int) < (t.size:Int):=by omega
      have htz2:t.size≤1000000:=by omega
      clear htx hl htz;by_cases hc:t[0].toNat=58
      ·have e5:((t[0].toNat:Int)==58)=true:=by rw [hc];rfl
       have e6:(t[0].toNat:Int)=58:=by rw [hc];rfl
       have hc58:t[0]=58:=UInt8.toNat_inj.1 hc;by_cases h6:6 < t.size
       ·have i6:(6:Int) < (t.size:Int):=by omega
        have HE3:=ns (show false=R from by
         have h:=HE2.out;rw [fZ] at h;rw [if_pos (Or.inr (by rw [List.length_drop,ae];omega))] at h;exact h)
        clear hc hc58;go_wp2_with fail;go_ret;rw [←HE3.out];exact⟨rfl,rfl⟩
       ·have i6:¬(6:Int) < (t.size:Int):=by omega
        obtain⟨u,hu⟩:=Iu (t.extract 1 t.size);have hux:ab u=(ab t).drop 1:=by rw [←hu,bQ]
        have huz:u.size≤1000000:=by rw [←hu,ByteArray.size_extract];omega
        obtain⟨a,b,hab⟩:∃ a b,eG (ab u)=(a,b):=⟨_,_,rfl⟩;have HAB:=ns hab;have HE3:=ns (show (b&&decide (a≤65535))=R from by
         have h:=HE2.out;rw [fZ] at h;rw [if_neg (by
          rintro(h|h)
          ·exact h hc58
          ·rw [List.length_drop,ae] at h;omega),←hux,hab] at h
         exact h)
        have i7:(1:Int)≤(t.size:Int):=by omega
        clear hc hc58 hux hab;go_wp2_with fail;refine(DX HAB huz _).mono ?_;rintro e w1 ⟨rfl,rfl⟩
        cases b
        ·go_wp2_with fail;go_ret;rw [←HE3.out];exact⟨by simp,rfl⟩
        ·go_wp2_with fail;go_ret;rw [←HE3.out];exact⟨by simp,rfl⟩
      ·have e5:((t[0].toNat:Int)==58)=false:=by simp;omega
       have e6:¬(t[0].toNat:Int)=58:=by omega
       have HE3:=ns (show false=R from by
        have h:=HE2.out;rw [fZ] at h;rw [if_pos (Or.inl (fun e=>hc (by rw [e];rfl)))] at h;exact h)
       clear hc;go_wp2_with fail;go_ret;rw [←HE3.out];exact⟨rfl,rfl⟩
   ·have HN:=ns (di HA.out hlt (hb.2 (Or.inl hf)));clear hf hb;go_wp2_with fail;refine(gN HF _).mono ?_;rintro e w1 ⟨rfl,rfl⟩;go_wp2_with fail;exact⟨⟨k+1,by omega,by go_num,HN.out⟩,by simp [intOf];omega⟩
  ·have hW:=bT (p:=dO) hkl HA.out (fun h=>absurd h (by rw [←ai];exact hlt));have hn:((ab s).takeWhile dO).length=k:=by
    have:=congrArg List.length hW;rw [List.length_take] at this;unfold ab;omega
   have HN:=ns hn;clear hW hn;by_cases hk1:k < 1
   ·have HE:=ns (show false=R from by have h:=HR.out;unfold bR at h;rw [HN.out,if_pos (Or.inl hk1)] at h;exact h);go_wp2_with fail;go_ret;rw [←HE.out];exact⟨rfl,rfl⟩
   by_cases hk2:100 < k
   ·have HE:=ns (show false=R from by have h:=HR.out;unfold bR at h;rw [HN.out,if_pos (Or.inr hk2)] at h;exact h);go_wp2_with fail;go_ret;rw [←HE.out];exact⟨rfl,rfl⟩
   have HE:=ns (show true=R from by have h:=HR.out;unfold bR at h;rw [HN.out,if_neg (by omega),List.drop_of_length_le (by rw [ae];omega)] at h;exact h);obtain rfl:k=s.size:=by omega
   have x0:(s.extract s.size s.size).toList=[]:=by
    rw [ByteArray.toList_eq];exact List.eq_nil_of_length_eq_zero (by simp)
   go_wp2_with fail;go_ret;rw [←HE.out];exact⟨rfl,rfl⟩
def kK(a b:UInt8):UInt8:=UInt8.ofNat (16 * (aG a).toNat+(aG b).toNat)
def cq:List UInt8→Option (List UInt8)
 |[]=>some []
 |c::r=>if c≠37 then (cq r).map (c::·) else match r with
  |a::b::r'=>if aG a < 0∨aG b < 0 then none else if kK a b=0 then none else (cq r').map (kK a b::·)
  |_=>none
theorem jW{c:UInt8}{r:List UInt8}(h:c≠37):cq (c::r)=(cq r).map (c::·):=by
 rw [cq.eq_def];exact if_pos h
theorem nj{a b:UInt8}{r:List UInt8}:cq (37::a::b::r)=if aG a < 0∨aG b < 0 then none else if kK a b=0 then none else (cq r).map (kK a b::·):=by
 rw [cq.eq_def];exact if_neg (by decide)
theorem iA{r:List UInt8}(h:r.length < 2):cq (37::r)=none:=by
 rw [cq.eq_def];refine(if_neg (by decide)).trans ?_
 match r,h with
 |[],_=>rfl
 |[_],_=>rfl
def uf:Option (List UInt8)→Value
 |some l=>.tuple #[.string ⟨l.toArray⟩,.int .i64 0]
 |none=>.tuple #[.string ⟨#[]⟩,.int .i64 8]
def Gn(s:ByteArray)(w:World)(b i:Value)(wr:World):Prop:=
 ∃ (k:Nat) (acc:List UInt8),k≤s.size∧i=.int .i64 k∧acc.length≤k∧cq s.data.toList=(cq (s.data.toList.drop k)).map (acc++·)∧ay wr w.heap.size b acc∧Sm No w wr
theorem mY(acc:List UInt8)(c:UInt8)(o:Option (List UInt8)):(o.map (c::·)).map (acc++·)=o.map ((acc++[c])++·):=by
 cases o with
 |none=>rfl
 |some l=>simp
theorem GK:∀ (a b:Fin 16),bits .or .i64 (((a.val:Nat):Int) * 16) ((b.val:Nat):Int)=((a.val * 16+b.val:Nat):Int):=by decide+kernel
theorem EN{x y:UInt8}(hx:0≤aG x)(hy:0≤aG y):bits .or .i64 (aG x * 16) (aG y) % 256=((kK x y).toNat:Int):=by
 have bx:=eF x;have b2:=eF y;have h:=GK ⟨(aG x).toNat,by omega⟩ ⟨(aG y).toNat,by omega⟩;simp only at h;rw [Int.toNat_of_nonneg hx,Int.toNat_of_nonneg hy] at h;rw [h];unfold kK;rw [UInt8.toNat_ofNat'];omega
theorem mA(s:ByteArray)(hs:s.size≤1000000)(w:World):
 Calls Tryz.prog 277 #[.string s] w fun e w'=>e=.returned (uf (cq s.data.toList))∧Sm No w w':=by
 obtain⟨R,hR⟩:=Iu (cq s.data.toList);rw [hR];have HR:=ns hR;clear hR;go_in;go_wp2_with fail
 go_loopw [4,5,6] (fun b i _ wr=>Gn s w b i wr) (fun _ i _ _=>s.size-(intOf i).toNat)
 case atStart=>exact⟨0,[],Nat.zero_le _,rfl,by simp,by rw [List.drop_zero];simp,World.ownsRow_nil _ _ _ 1,Sm.refl _ _⟩
 case round=>
  obtain⟨k,acc,hk,rfl,hacc,hqr,hO,hsm⟩:=hrel;have HQ:=ns (BT hqr (BT hO hsm));clear hqr hO hsm;by_cases hlt:k < s.size
  ·have hd:=bL s k hlt;obtain⟨c,hc⟩:=Iu (s[k]);have hc256:=c.toNat_lt;rw [hc] at hd;by_cases hc1:c=37
   ·have ht:((c.toNat:Int)==37)=true:=by rw [hc1];rfl
    by_cases hl2:k+2 < s.size
    ·have hd2:=bL s (k+1) (by omega);have hd3:=bL s (k+2) hl2;obtain⟨x,hx⟩:=Iu (s[k+1]'(by omega));obtain⟨y,hy⟩:=Iu (s[k+2]);rw [hx] at hd2;rw [hy] at hd3;have hst:cq s.data.toList=(if aG x < 0∨aG y < 0 then none else if kK x y=0 then none else (cq (s.data.toList.drop (k+3))).map (kK x y::·)).map (acc++·):=by
      rw [HQ.out.1,hd,hd2,hd3,hc1,nj]
     have HST:=ns hst;have hxb:=eF x;have hyb:=eF y;obtain⟨dx,hdx⟩:∃ d,aG x=d:=⟨_,rfl⟩;obtain⟨dy,hdy⟩:∃ d,aG y=d:=⟨_,rfl⟩;have HDx:=ns (fun (w:World)=>hdx ▸ ip x w);have HDy:=ns (fun (w:World)=>hdy ▸ ip y w);have HDD:=ns (BT hdx hdy);rw [hdx] at hxb;rw [hdy] at hyb;have k1:(0:Int)≤(k:Int)+1:=by omega
     have k2:(k:Int)+1 < (s.size:Int):=by omega
     have k3:(0:Int)≤(k:Int)+2:=by omega
     have k4:(k:Int)+2 < (s.size:Int):=by omega
     clear hd hd2 hd3 hst hc1 hdx hdy;by_cases hx0:dx < 0
     ·have HE:=ns (show none=R from by
       have h:=HST.out;rw [if_pos (Or.inl (by rw [HDD.out.1];exact hx0))] at h;exact h.symm.trans HR.out)
      go_wp2_with (first|(go_at_call 239;with_reducible refine(HDx.out _).mono ?_;rintro e w2 ⟨rfl,rfl⟩)|fail);go_ret2;exact⟨by rw [←HE.out];rfl,HQ.out.2.2⟩
     ·by_cases hy0:dy < 0
      ·have HE:=ns (show none=R from by
        have h:=HST.out;rw [if_pos (Or.inr (by rw [HDD.out.2];exact hy0))] at h;exact h.symm.trans HR.out)
       go_wp2_with (first|(go_at_call 239;with_reducible refine(HDx.out _).mono ?_;rintro e w2 ⟨rfl,rfl⟩)|(go_at_call 239;with_reducible refine(HDy.out _).mono ?_;rintro e w2 ⟨rfl,rfl⟩)|fail);go_ret2;exact⟨by rw [←HE.out];rfl,HQ.out.2.2⟩
      ·obtain⟨cv,hcv⟩:=Iu (kK x y);have hv:bits .or .i64 (dx * 16) dy % 256=(cv.toNat:Int):=by
        rw [←hcv,←EN (by rw [HDD.out.1];omega) (by rw [HDD.out.2];omega),HDD.out.1,HDD.out.2]
       have hcvb:=cv.toNat_lt;have HST2:=ns (show cq s.data.toList=(if cv=0 then none else (cq (s.data.toList.drop (k+3))).map (cv::·)).map (acc++·) from by
        have h:=HST.out;rw [if_neg (by rw [HDD.out.1,HDD.out.2];omega),hcv] at h;exact h)
       clear hcv;go_wp2_with (first|(go_at_call 239;with_reducible refine(HDx.out _).mono ?_;rintro e w2 ⟨rfl,rfl⟩)|(go_at_call 239;with_reducible refine(HDy.out _).mono ?_;rintro e w2 ⟨rfl,rfl⟩)|fail);go_quiet (first
        |(go_at_call 239;with_reducible exact Calls.quiet_of_same (bD (HDx.out _)))
        |(go_at_call 239;with_reducible exact Calls.quiet_of_same (bD (HDy.out _))))
       by_cases hz:cv=0
       ·have HE:=ns (show none=R from by
         have h:=HST2.out;rw [if_pos hz] at h;exact h.symm.trans HR.out)
        have e1:((cv.toNat:Int)==0)=true:=by rw [hz];rfl
        clear hz;go_wp2_with fail;go_ret2;exact⟨by rw [←HE.out];rfl,HQ.out.2.2.drewN _⟩
       ·have e1:((cv.toNat:Int)==0)=false:=aK (n:=0) (by decide) hz;have HR2:=ns (show cq s.data.toList=(cq (s.data.toList.drop (k+3))).map ((acc++[cv])++·) from by
         have h:=HST2.out;rw [if_neg hz,mY] at h;exact h)
        clear hz;go_wp2_with (refine aq rfl _ _ 22 5 rfl Tryz.underlying22 _ 1 1 eE rfl (by decide) (by decide) w.heap.size _ u4 _ rfl (World.ownsRow.alloc (aa HQ.out.2.1 ((Sm.refl No wr).drewN nq) (fun _ _ h=>h)) _) wr.heap.size #[.int .u8 cv.toNat] rfl (Bk.new (wr.drewN nq) _ _) rfl (by simp [Value.oneCell']) (by omega) (by have:=HQ.out.2.2.size;simp;omega) ?_;intro v' w2 hown2 hs2 hv2);have hO2:ay w2 w.heap.size v' (acc++[cv]):=ay.push hown2 rfl;have hS2:Sm No w w2:=((HQ.out.2.2.drewN nq).alloc (.cells #[.int .u8 cv.toNat] 5)).trans hs2 (fun b hb e=>by
         have:=(World.ownsRow.lt HQ.out.2.1 b e).1;omega)
        have H2:=ns (BT hO2 hS2);clear hO2 hS2 hown2 hs2 hv2;go_wp2_with fail;exact⟨⟨k+3,acc++[cv],by omega,by go_num,by simp;omega,HR2.out,H2.out.1,H2.out.2⟩,by simp [intOf];omega⟩
    ·have HE:=ns (show none=R from by
      have h:=HQ.out.1;rw [hd,hc1,iA (by simp;omega)] at h;exact h.symm.trans HR.out)
     have k4:¬(k:Int)+2 < (s.size:Int):=by omega
     clear hd hc1;go_wp2_with fail;go_ret2;exact⟨by rw [←HE.out];rfl,HQ.out.2.2⟩
   ·have ht:((c.toNat:Int)==37)=false:=aK (n:=37) (by decide) hc1;have HR2:=ns (show cq s.data.toList=(cq (s.data.toList.drop (k+1))).map ((acc++[c])++·) from by rw [HQ.out.1,hd,jW hc1,mY]);clear hd hc1;go_wp2_with (refine aq rfl _ _ 22 5 rfl Tryz.underlying22 _ 1 1 eE rfl (by decide) (by decide) w.heap.size _ u4 _ rfl (World.ownsRow.alloc HQ.out.2.1 _) wr.heap.size #[.int .u8 c.toNat] rfl (Bk.new wr _ _) rfl (by simp [Value.oneCell']) (by omega) (by have:=HQ.out.2.2.size;simp;omega) ?_;intro v' w2 hown2 hs2 hv2);have hO2:ay w2 w.heap.size v' (acc++[c]):=ay.push hown2 rfl;have hS2:Sm No w w2:=(HQ.out.2.2.alloc (.cells #[.int .u8 c.toNat] 5)).trans hs2 (fun b hb e=>by
     have:=(World.ownsRow.lt HQ.out.2.1 b e).1;omega)
    have H2:=ns (BT hO2 hS2);clear hO2 hS2 hown2 hs2 hv2;go_wp2_with fail;exact⟨⟨k+1,acc++[c],by omega,by go_num,by simp;omega,HR2.out,H2.out.1,H2.out.2⟩,by simp [intOf];omega⟩
  ·obtain rfl:k=s.size:=by omega
   have HE:=ns (show some acc=R from by
    have h:=HQ.out.1;rw [List.drop_of_length_le (by simp)] at h;have h2:cq s.data.toList=some (acc++[]):=h;rw [List.append_nil] at h2;exact h2.symm.trans HR.out)
   go_wp2_with (refine dc rfl 22 9 _ rfl w.heap.size acc _ rfl HQ.out.2.1 Tryz.underlying22 Tryz.underlying5 Tryz.underlying9 ?_);go_ret2;exact⟨by rw [←HE.out];rfl,HQ.out.2.2⟩
def Ik:List UInt8:=[45,46,95,126,33,36,38,39,40,41,42,43,44,59,61,58,64,47,37,63]
def pu(c:UInt8):Bool:=it c||lX c Ik
theorem xm{c:UInt8}{s:ByteArray}{r:Bool}(h:Hid (lX c s.data.toList=r))(hs:s.size≤1000000)(w:World):Calls Tryz.prog 214 #[.int .u8 c.toNat,.string s] w fun e w'=>e=.returned (.bool r)∧w=w':=by
 rw [←h.out];exact D8 c s (by omega) w
theorem rf(c:UInt8)(w:World):Calls Tryz.prog 276 #[.int .u8 c.toNat] w fun e w'=>e=.returned (.bool (pu c))∧w=w':=by
 obtain⟨a,ha⟩:=Iu (it c);obtain⟨b,hb⟩:=Iu (lX c Ik);unfold pu;rw [ha,hb];have HA:=ns ha;have HB:=ns (show lX c (⟨#[45,46,95,126,33,36,38,39,40,41,42,43,44,59,61,58,64,47,37,63]⟩:ByteArray).data.toList=b from hb);clear ha hb;go_in;go_wp2_with fail;refine(gN HA _).mono ?_;rintro e w1 ⟨rfl,rfl⟩
 cases a
 ·go_wp2_with fail;refine(xm HB (by decide) _).mono ?_;rintro e w1 ⟨rfl,rfl⟩;go_wp2_with fail;go_ret;exact⟨rfl,rfl⟩
 ·go_wp2_with fail;go_ret;exact⟨rfl,rfl⟩
theorem gP:∀ (n:Nat) (l r:List UInt8),l.length≤n→cq l=some r→r.length≤l.length
 |n,[],r,_,h=>by
  have:r=[]:=by
   have h2:cq []=some []:=rfl;rw [h2] at h;injection h with h;exact h.symm
  rw [this];exact Nat.le_refl _
 |0,c::l,r,hn,_=>absurd hn (by simp)
 |n+1,c::l,r,hn,h=>by
  rw [List.length_cons] at hn;by_cases hc:c=37
  ·subst hc
   match l,hn,h with
   |[],_,h=>rw [iA (by simp)] at h;cases h
   |[_],_,h=>rw [iA (by simp)] at h;cases h
   |a::b::l,hn,h=>
    rw [nj] at h;split at h
    ·cases h
    ·split at h
     ·cases h
     ·cases hd:cq l with
      |none=>rw [hd] at h;cases h
      |some t=>
       rw [hd] at h;injection h with h;simp only [List.length_cons] at hn;have:=gP n l t (by omega) hd;rw [←h];simp only [List.length_cons];omega
  ·rw [jW hc] at h
   cases hd:cq l with
   |none=>rw [hd] at h;cases h
   |some t=>
    rw [hd] at h;injection h with h;have:=gP n l t (by omega) hd;rw [←h];simp only [List.length_cons];omega
def lG(c:UInt8):Bool:= !(c==63)
def B9(o:Option af)(q:af):Option (af × af):=o.map fun c=>(c,q)
def rW(o:Option af)(q:af):Option (af × af):=match o with
 |some p=>B9 (bG p) q
 |none=>none
def cw(s:af):Option (af × af):=if s.all pu=true then rW (cq (s.takeWhile lG)) (s.drop ((s.takeWhile lG).length+1)) else none
def bW(s:af)(w:World)(e:Ending)(w':World):Prop:=
 Sm No w w'∧match cw s with
  |some (p,q)=>e=.returned (.tuple #[.string ⟨p.toArray⟩,.string ⟨q.toArray⟩,.bool true])
  |none=>∃ p q,e=.returned (.tuple #[.string p,.string q,.bool false])
theorem bW.no{s:af}{w w':World}(h:cw s=none)(hs:Sm No w w')(p q:ByteArray):bW s w (.returned (.tuple #[.string p,.string q,.bool false])) w':=by
 refine⟨hs,?_⟩;rw [h];exact⟨p,q,rfl⟩
theorem bW.yes{s p q:af}{w w':World}(h:cw s=some (p,q))(hs:Sm No w w'):bW s w (.returned (.tuple #[.string ⟨p.toArray⟩,.string ⟨q.toArray⟩,.bool true])) w':=by
 refine⟨hs,?_⟩;rw [h]
theorem ec(q:ByteArray):(⟨(ab q).toArray⟩:ByteArray)=q:=by
 apply ByteArray.ext;simp [ab]
theorem xY{c:UInt8}{r:Bool}(h:Hid (pu c=r))(w:World):Calls Tryz.prog 276 #[.int .u8 c.toNat] w fun e w'=>e=.returned (.bool r)∧w=w':=by
 rw [←h.out];exact rf c w
theorem dp(s:ByteArray)(hs:s.size≤100000)(w:World):
 Calls Tryz.prog 243 #[.string s] w (bW (ab s) w):=by
 go_in;go_wp2_with fail
 go_loop [7] (fun i=>jf pu s i) (fun i=>s.size-(intOf i).toNat)
 case atStart=>exact⟨0,Nat.zero_le _,rfl,by simp⟩
 case round=>
  obtain⟨k,hk,rfl,hall⟩:=hrel;have HA:=ns hall;clear hall;by_cases hlt:k < s.size
  ·obtain⟨f,hf⟩:=Iu (pu s[k]);have HF:=ns hf
   cases f
   ·have HE:=ns (show cw (ab s)=none from by
     unfold cw;rw [if_neg (by
      rw [show (ab s).all pu=false from eD s k hlt pu hf];decide)])
    clear hf;go_wp2_with fail;refine(xY HF _).mono ?_;rintro e w1 ⟨rfl,rfl⟩;go_wp2_with fail
    go_ret3
    exact bW.no HE.out (Sm.refl _ _) _ _
   ·have HN:=ns (di HA.out hlt hf);clear hf;go_wp2_with fail;refine(xY HF _).mono ?_;rintro e w1 ⟨rfl,rfl⟩;go_wp2_with fail;exact⟨⟨k+1,by omega,by go_num,HN.out⟩,by simp [intOf];omega⟩
  ·have HAll:=ns (show (ab s).all pu=true from by
    rw [List.all_eq_true];intro c hc;exact HA.out c (by rw [hZ s k hlt];exact hc))
   go_wp2_with fail
   go_loop [5,6,8] (fun p q i=>p=.string s∧q=.string ⟨#[]⟩∧jf lG s i) (fun _ _ i=>s.size-(intOf i).toNat)
   case atStart=>exact⟨rfl,rfl,0,Nat.zero_le _,rfl,by simp⟩
   case round=>
    obtain⟨rfl,rfl,k,hk,rfl,hall⟩:=hrel;have HA:=ns hall;clear hall;have hkl:k≤s.data.toList.length:=by rw [←ai];exact hk
    by_cases hlt:k < s.size
    ·by_cases hq:s[k]=63
     ·have e1:((s[k].toNat:Int)==63)=true:=by rw [hq];rfl
      have hW:=bT (p:=lG) hkl HA.out (fun h=>by
       show lG s[k]=false;rw [hq];rfl)
      obtain⟨pB,hpB⟩:=Iu (s.extract 0 k);obtain⟨qB,hqB⟩:=Iu (s.extract (k+1) s.size);have hp1:ab pB=(ab s).take k:=by rw [←hpB,aN,List.drop_zero]
      have hn:((ab s).takeWhile lG).length=k:=by
       have:=congrArg List.length hW;rw [List.length_take] at this;unfold ab;omega
      have HPQ:=ns (BT (show ab pB=(ab s).takeWhile lG from hp1.trans hW.symm) (show ab qB=(ab s).drop (((ab s).takeWhile lG).length+1) from by rw [hn,←hqB,bQ]));have hpz:pB.size≤100000:=by rw [←hpB,ByteArray.size_extract];omega
      have k1:(k:Int)≤(s.size:Int):=by omega
      have k2:(k:Int)+1≤(s.size:Int):=by omega
      clear hW hp1 hn hq;go_wp2_with fail;go_quiet (fail);obtain⟨D,hD⟩:=Iu (cq pB.data.toList);have HDc:=ns (hD ▸ mA pB (by omega) (w.drewN nq));have HOr:=ns (show cw (ab s)=rW D (ab qB) from by
       unfold cw;rw [if_pos HAll.out,←HPQ.out.2,←HPQ.out.1];exact congrArg (fun o=>rW o _) hD)
      have hdl:∀ d,D=some d→d.length≤100000:=fun d e=>by
       have h:=gP _ _ d (Nat.le_refl _) (hD.trans e);have h2:pB.data.toList.length=pB.size:=by simp
       omega
      clear hD;go_wp2_with fail
      with_reducible refine HDc.out.mono ?_
      rintro e w1 ⟨rfl,hs1⟩;have hs1:=((Sm.refl No w).drewN nq).tt hs1
      cases D with
      |none=>
       rw [show uf none=.tuple #[.string ⟨#[]⟩,.int .i64 8] from rfl];have HS1:=ns hs1;clear hs1;go_wp2_with fail
       go_ret3
       exact bW.no HOr.out HS1.out _ _
      |some d=>
       obtain⟨dB,hdB⟩:=Iu ((⟨d.toArray⟩:ByteArray));have hdt:ab dB=d:=by rw [←hdB];rfl
       have hdz:dB.size≤900000:=by rw [←ae,hdt];have:=hdl d rfl;omega
       rw [show uf (some d)=.tuple #[.string dB,.int .i64 0] from by rw [←hdB];rfl];obtain⟨C,hC⟩:=Iu (bG d);have HCl:=ns (pi dB hdz w1);rw [hdt,hC] at HCl;have HO2:=ns (show cw (ab s)=B9 C (ab qB) from by rw [HOr.out,←hC];rfl);have HS1:=ns hs1;clear hs1 hdB hdt hC hdl;go_wp2_with fail
       with_reducible refine HCl.out.mono ?_
       rintro e w2 ⟨rfl,hs2⟩;have HS2:=ns (HS1.out.tt hs2);clear hs2 HCl
       cases C with
       |none=>
        rw [show dV none=.tuple #[.string ⟨#[]⟩,.bool false] from rfl];go_wp2_with fail
        go_ret3
        exact bW.no HO2.out HS2.out _ _
       |some c=>
        obtain⟨cB,hcB⟩:∃ cB:ByteArray,gj c=.string cB:=⟨_,rfl⟩;have HCB:=ns hcB;rw [show dV (some c)=.tuple #[.string cB,.bool true] from by rw [←hcB];rfl];clear hcB;go_wp2_with fail
        go_ret3
        have h:=bW.yes HO2.out HS2.out;rw [ec] at h;have e:Value.string ⟨c.toArray⟩=.string cB:=HCB.out;rw [e] at h;exact h
     ·have e1:((s[k].toNat:Int)==63)=false:=aK (n:=63) (by decide) hq;have HN:=ns (di (p:=lG) HA.out hlt (by unfold lG;simpa using hq));clear hq;go_wp2_with fail;exact⟨⟨rfl,rfl,k+1,by omega,by go_num,HN.out⟩,by simp [intOf];omega⟩
    ·have hW:=bT (p:=lG) hkl HA.out (fun h=>absurd h (by rw [←ai];exact hlt));obtain rfl:k=s.size:=by omega
     have hW2:(ab s).takeWhile lG=ab s:=hW.trans (List.take_of_length_le (by simp));obtain⟨pB,hpB⟩:=Iu s;obtain⟨qB,hqB⟩:∃ qB:ByteArray,(⟨#[]⟩:ByteArray)=qB:=⟨_,rfl⟩;have HPQ:=ns (BT (show ab pB=(ab s).takeWhile lG from by rw [←hpB];exact hW2.symm) (show ab qB=(ab s).drop (((ab s).takeWhile lG).length+1) from by rw [hW2,←hqB,List.drop_of_length_le (by omega)];rfl));have hpz:pB.size≤100000:=by rw [←hpB];exact hs
     clear hW hW2;subst hpB;subst hqB;obtain⟨D,hD⟩:=Iu (cq s.data.toList);have HDc:=ns (hD ▸ mA s (by omega) w);have HOr:=ns (show cw (ab s)=rW D (ab (⟨#[]⟩:ByteArray)) from by
      unfold cw;rw [if_pos HAll.out,←HPQ.out.2,←HPQ.out.1];exact congrArg (fun o=>rW o _) hD)
     have hdl:∀ d,D=some d→d.length≤100000:=fun d e=>by
      have h:=gP _ _ d (Nat.le_refl _) (hD.trans e);have h2:s.data.toList.length=s.size:=by simp
      omega
     clear hD;go_wp2_with fail
     with_reducible refine HDc.out.mono ?_
     rintro e w1 ⟨rfl,hs1⟩
     cases D with
     |none=>
      rw [show uf none=.tuple #[.string ⟨#[]⟩,.int .i64 8] from rfl];have HS1:=ns hs1;clear hs1;go_wp2_with fail
      go_ret3
      exact bW.no HOr.out HS1.out _ _
     |some d=>
      obtain⟨dB,hdB⟩:=Iu ((⟨d.toArray⟩:ByteArray));have hdt:ab dB=d:=by rw [←hdB];rfl
      have hdz:dB.size≤900000:=by rw [←ae,hdt];have:=hdl d rfl;omega
      rw [show uf (some d)=.tuple #[.string dB,.int .i64 0] from by rw [←hdB];rfl];obtain⟨C,hC⟩:=Iu (bG d);have HCl:=ns (pi dB hdz w1);rw [hdt,hC] at HCl;have HO2:=ns (show cw (ab s)=B9 C (ab (⟨#[]⟩:ByteArray)) from by rw [HOr.out,←hC];rfl);have HS1:=ns hs1;clear hs1 hdB hdt hC hdl;go_wp2_with fail
      with_reducible refine HCl.out.mono ?_
      rintro e w2 ⟨rfl,hs2⟩;have HS2:=ns (HS1.out.tt hs2);clear hs2 HCl
      cases C with
      |none=>
       rw [show dV none=.tuple #[.string ⟨#[]⟩,.bool false] from rfl];go_wp2_with fail
       go_ret3
       exact bW.no HO2.out HS2.out _ _
      |some c=>
       obtain⟨cB,hcB⟩:∃ cB:ByteArray,gj c=.string cB:=⟨_,rfl⟩;have HCB:=ns hcB;rw [show dV (some c)=.tuple #[.string cB,.bool true] from by rw [←hcB];rfl];clear hcB;go_wp2_with fail
       go_ret3
       have h:=bW.yes HO2.out HS2.out;rw [ec] at h;have e:Value.string ⟨c.toArray⟩=.string cB:=HCB.out;rw [e] at h;exact h
structure Tg where
 form:Int
 host:af
 path:af
 query:af
def G7(t:Tg):Value:=.agg #[.int .i64 t.form,.string ⟨t.host.toArray⟩,.string ⟨t.path.toArray⟩,.string ⟨t.query.toArray⟩]
def gS(c:UInt8):Bool:= !(c==47)&& !(c==63)
def pC(r:af):af:=match r with
 |47::t=>47::t
 |t=>47::t
def vv(h:af)(o:Option (af × af)):Option Tg:=o.map fun x=>⟨2,aU h,x.1,x.2⟩
def fm(s:af):Option Tg:=if bR (s.takeWhile gS)=true then vv (s.takeWhile gS) (cw (pC (s.drop (s.takeWhile gS).length))) else none
def aI(o:Option Tg)(c:Int)(w:World)(e:Ending)(w':World):Prop:=
 Sm No w w'∧match o with
  |some t=>e=.returned (.tuple #[G7 t,.int .i64 0])
  |none=>e=.returned (.tuple #[G7 ⟨0,[],[],[]⟩,.int .i64 c])
theorem cK{w w1:World}{b0:Nat}{a b c d p q r x:Value}(hs:Sm No w w1)(hb:Bk w1 b0 59 #[a,b,c,d])(h0:w.heap.size≤b0):
 Sm No w ((((w1.setCell ⟨b0,0,none⟩ p).setCell ⟨b0,1,none⟩ q).setCell ⟨b0,2,none⟩ r).setCell ⟨b0,3,none⟩ x)∧Bk ((((w1.setCell ⟨b0,0,none⟩ p).setCell ⟨b0,1,none⟩ q).setCell ⟨b0,2,none⟩ r).setCell ⟨b0,3,none⟩ x) b0 59 #[p,q,r,x]:=
 ⟨hs.fresh (((((Sm.refl (fun b=>b=b0) w1).set1 0 p).set1 1 q).set1 2 r).set1 3 x) (fun b e=>by omega),(((hb.set 0 p).set 1 q).set 2 r).set 3 x⟩
theorem gR{s:ByteArray}{r:Bool}(h:Hid (bR (ab s)=r))(hs:s.size≤1000000)(w:World):Calls Tryz.prog 242 #[.string s] w fun e w'=>e=.returned (.bool r)∧w=w':=by
 rw [←h.out];exact zz s hs w
theorem jQ(s:ByteArray)(hs:s.size≤90000)(w:World):
 Calls Tryz.prog 244 #[.string s] w (aI (fm (ab s)) 8 w):=by
 go_in;go_wp2_with fail;obtain⟨b0,hb0⟩:=Iu w.heap.size;obtain⟨w1,hw1⟩:∃ w1,w.alloc (.cells #[.int .i64 0,.string ⟨#[]⟩,.string ⟨#[]⟩,.string ⟨#[]⟩] 59)=w1:=⟨_,rfl⟩;have hs1:Sm No w w1:=by rw [←hw1];exact(Sm.refl No w).alloc _
 have hb1:Bk w1 b0 59 #[.int .i64 0,.string ⟨#[]⟩,.string ⟨#[]⟩,.string ⟨#[]⟩]:=by rw [←hw1,←hb0];exact Bk.new w _ _
 rw [hw1,hb0];have H1:=ns (BT hs1 (BT hb1 hb0));clear hs1 hb1 hw1 hb0
 go_loop [4] (fun i=>jf gS s i) (fun i=>s.size-(intOf i).toNat)
 case atStart=>exact⟨0,Nat.zero_le _,rfl,by simp⟩
 case round=>
  obtain⟨k,hk,rfl,hall⟩:=hrel;have HA:=ns hall;clear hall;have hkl:k≤s.data.toList.length:=by rw [←ai];exact hk
  by_cases hgo:k < s.size∧∀ h:k < s.size,gS s[k]=true
  ·obtain⟨hlt,hf⟩:=hgo;have hf:=hf hlt;have HN:=ns (di HA.out hlt hf);obtain⟨c,hc⟩:=Iu (s[k]);have hc256:=c.toNat_lt;rw [hc] at hf;have n1:c≠47:=fun e=>by rw [e] at hf;cases hf
   have n2:c≠63:=fun e=>by rw [e] at hf;cases hf
   have e1:((c.toNat:Int)==47)=false:=aK (n:=47) (by decide) n1;have e2:((c.toNat:Int)==63)=false:=aK (n:=63) (by decide) n2;have e3:((c.toNat:Int) != 47)=true:=by simpa using e1
   have e4:((c.toNat:Int) != 63)=true:=by simpa using e2
   clear n1 n2;clear hf;go_wp2_with fail;exact⟨⟨k+1,by omega,by go_num,HN.out⟩,by simp [intOf];omega⟩
  ·have hW:=bT (p:=gS) hkl HA.out (fun h=>by
    have hlt:k < s.size:=by rw [ai];exact h
    cases hc:gS s.data.toList[k] with
    |false=>rfl
    |true=>exact absurd ⟨hlt,fun _=>hc⟩ hgo)
   have hn:((ab s).takeWhile gS).length=k:=by
    have:=congrArg List.length hW;rw [List.length_take] at this;unfold ab;omega
   have hways:k=s.size∨(∃ h:k < s.size,s[k]=47)∨(∃ h:k < s.size,s[k]=63):=by
    by_cases hlt:k < s.size
    ·by_cases h47:s[k]=47
     ·exact Or.inr (Or.inl ⟨hlt,h47⟩)
     ·by_cases h63:s[k]=63
      ·exact Or.inr (Or.inr ⟨hlt,h63⟩)
      ·exact absurd ⟨hlt,fun _=>by unfold gS;simp [h47,h63]⟩ hgo
    ·exact Or.inl (by omega)
   obtain⟨hB,hhB⟩:=Iu (s.extract 0 k);have hht:ab hB=(ab s).takeWhile gS:=by rw [←hhB,aN,List.drop_zero];exact hW.symm
   have hhz:hB.size≤90000:=by rw [←hhB,ByteArray.size_extract];omega
   obtain⟨rB,hrB⟩:=Iu (s.extract k s.size);have hrt:ab rB=(ab s).drop ((ab s).takeWhile gS).length:=by rw [hn,←hrB,bQ]
   have HRT:=ns (BT hht hrt);obtain⟨f,hf⟩:=Iu (bR (ab hB));have HF:=ns hf;have kz:(k:Int)≤(s.size:Int):=by omega
   have HWays:=ns hways;clear hW hn hht hrt hf hgo hways hkl
   cases f with
   |false=>
    have HE:=ns (show fm (ab s)=none from by
     unfold fm;rw [if_neg (by rw [←HRT.out.1,HF.out];decide)])
    have hb:=H1.out.2.1;have d0:=hb.at 0 (v:=.int .i64 0) rfl;have d1:=hb.at 1 (v:=.string ⟨#[]⟩) rfl;have d2:=hb.at 2 (v:=.string ⟨#[]⟩) rfl;have d3:=hb.at 3 (v:=.string ⟨#[]⟩) rfl;have f0:=hb.fz 0;have f1:=hb.fz 1;have f2:=hb.fz 2;have f3:=hb.fz 3;have hl:=hb.lt;clear hb;have hcall:=gR HF (by omega) w1;rcases HWays.out with rfl|⟨hlt,hc⟩|⟨hlt,hc⟩
    ·go_wp2_with fail
     with_reducible refine hcall.mono ?_
     rintro e w2 ⟨rfl,rfl⟩;go_wp2_with fail;have HT:=ns (cK (p:=.int .i64 0) (q:=.string ⟨#[]⟩) (r:=.string ⟨#[]⟩) (x:=.string ⟨#[]⟩) H1.out.1 H1.out.2.1 (Nat.le_of_eq H1.out.2.2));have c0:=HT.out.2.at 0 rfl;have c1:=HT.out.2.at 1 rfl;have c2:=HT.out.2.at 2 rfl;have c3:=HT.out.2.at 3 rfl;exact bodyPost_ret (v:=.tuple #[.agg #[.int .i64 0,.string ⟨#[]⟩,.string ⟨#[]⟩,.string ⟨#[]⟩],.int .i64 8]) (by simp [results,Tryz.results244,go_sem,c0,c1,c2,c3]) rfl ⟨HT.out.1,by rw [HE.out];rfl⟩
    ·obtain⟨c,hc2⟩:=Iu (s[k]);have e0:c=47:=hc2.symm.trans hc;have hc256:=c.toNat_lt;have e1:((c.toNat:Int)==47)=true:=by rw [e0];rfl
     have e2:((c.toNat:Int)==63)=false:=by rw [e0];rfl
     have e3:((c.toNat:Int) != 47)=false:=by rw [e0];rfl
     have e4:((c.toNat:Int) != 63)=true:=by rw [e0];rfl
     have e5:(c.toNat:Int)=47:=by rw [e0];rfl
     clear hc e0;go_wp2_with fail
     with_reducible refine hcall.mono ?_
     rintro e w2 ⟨rfl,rfl⟩;go_wp2_with fail;have HT:=ns (cK (p:=.int .i64 0) (q:=.string ⟨#[]⟩) (r:=.string ⟨#[]⟩) (x:=.string ⟨#[]⟩) H1.out.1 H1.out.2.1 (Nat.le_of_eq H1.out.2.2));have c0:=HT.out.2.at 0 rfl;have c1:=HT.out.2.at 1 rfl;have c2:=HT.out.2.at 2 rfl;have c3:=HT.out.2.at 3 rfl;exact bodyPost_ret (v:=.tuple #[.agg #[.int .i64 0,.string ⟨#[]⟩,.string ⟨#[]⟩,.string ⟨#[]⟩],.int .i64 8]) (by simp [results,Tryz.results244,go_sem,c0,c1,c2,c3]) rfl ⟨HT.out.1,by rw [HE.out];rfl⟩
    ·obtain⟨c,hc2⟩:=Iu (s[k]);have e0:c=63:=hc2.symm.trans hc;have hc256:=c.toNat_lt;have e1:((c.toNat:Int)==47)=false:=by rw [e0];rfl
     have e2:((c.toNat:Int)==63)=true:=by rw [e0];rfl
     have e3:((c.toNat:Int) != 47)=true:=by rw [e0];rfl
     have e4:((c.toNat:Int) != 63)=false:=by rw [e0];rfl
     have e5:(c.toNat:Int)=63:=by rw [e0];rfl
     clear hc e0;go_wp2_with fail
     with_reducible refine hcall.mono ?_
     rintro e w2 ⟨rfl,rfl⟩;go_wp2_with fail;have HT:=ns (cK (p:=.int .i64 0) (q:=.string ⟨#[]⟩) (r:=.string ⟨#[]⟩) (x:=.string ⟨#[]⟩) H1.out.1 H1.out.2.1 (Nat.le_of_eq H1.out.2.2));have c0:=HT.out.2.at 0 rfl;have c1:=HT.out.2.at 1 rfl;have c2:=HT.out.2.at 2 rfl;have c3:=HT.out.2.at 3 rfl;exact bodyPost_ret (v:=.tuple #[.agg #[.int .i64 0,.string ⟨#[]⟩,.string ⟨#[]⟩,.string ⟨#[]⟩],.int .i64 8]) (by simp [results,Tryz.results244,go_sem,c0,c1,c2,c3]) rfl ⟨HT.out.1,by rw [HE.out];rfl⟩
   |true=>
    have hcall:=gR HF (by omega) w1;rcases HWays.out with rfl|⟨hlt,hc⟩|⟨hlt,hc⟩
    ·have hr0:ab rB=[]:=by rw [←hrB];exact List.eq_nil_of_length_eq_zero (by rw [ae];simp)
     have x0:rB.toList=[]:=by rw [ByteArray.toList_eq];exact hr0
     obtain⟨rr,hr1⟩:∃ rr:ByteArray,(⟨#[47]⟩:ByteArray)=rr:=⟨_,rfl⟩;have hrr:ab rr=pC (ab rB):=by rw [hr0,←hr1];rfl
     have hrz:rr.size≤100000:=by rw [←ae,hrr,hr0];decide
     have HR1:=ns hr1;clear hr0 hr1;have HE:=ns (show fm (ab s)=vv (ab hB) (cw (ab rr)) from by
      unfold fm;rw [if_pos (by rw [←HRT.out.1];exact HF.out),←HRT.out.2,←HRT.out.1,←hrr])
     obtain⟨O,hO⟩:=Iu (cw (ab rr));have HOg:=dp rr hrz w1;unfold bW at HOg;rw [hO] at HOg;have HOG:=ns HOg;have HO:=ns hO;clear HOg hO hrr;go_wp2_with fail
     with_reducible refine hcall.mono ?_
     rintro e w2 ⟨rfl,rfl⟩;go_wp2_with fail;rw [HR1.out];refine HOG.out.mono ?_
     cases O with
     |none=>
      rintro e w2 ⟨hs2,pB,qB,rfl⟩;have hb2:=H1.out.2.1.sm hs2 (fun h=>h);have d0:=hb2.at 0 (v:=.int .i64 0) rfl;have d1:=hb2.at 1 (v:=.string ⟨#[]⟩) rfl;have d2:=hb2.at 2 (v:=.string ⟨#[]⟩) rfl;have d3:=hb2.at 3 (v:=.string ⟨#[]⟩) rfl;have f0:=hb2.fz 0;have f1:=hb2.fz 1;have f2:=hb2.fz 2;have f3:=hb2.fz 3;have hl:=hb2.lt;have HS2:=ns (H1.out.1.tt hs2);have HB2:=ns hb2;clear hs2 hb2;go_wp2_with fail;have HT:=ns (cK (p:=.int .i64 0) (q:=.string ⟨#[]⟩) (r:=.string ⟨#[]⟩) (x:=.string ⟨#[]⟩) HS2.out HB2.out (Nat.le_of_eq H1.out.2.2));have c0:=HT.out.2.at 0 rfl;have c1:=HT.out.2.at 1 rfl;have c2:=HT.out.2.at 2 rfl;have c3:=HT.out.2.at 3 rfl;exact bodyPost_ret (v:=.tuple #[.agg #[.int .i64 0,.string ⟨#[]⟩,.string ⟨#[]⟩,.string ⟨#[]⟩],.int .i64 8]) (by simp [results,Tryz.results244,go_sem,c0,c1,c2,c3]) rfl ⟨HT.out.1,by rw [HE.out,HO.out];rfl⟩
     |some x=>
      obtain⟨p,q⟩:=x;obtain⟨pB,hpB⟩:=Iu ((⟨p.toArray⟩:ByteArray));obtain⟨qB,hqB⟩:=Iu ((⟨q.toArray⟩:ByteArray));dsimp only;rw [hpB,hqB];rintro e w2 ⟨hs2,rfl⟩;have hb2:=H1.out.2.1.sm hs2 (fun h=>h);have d0:=hb2.at 0 (v:=.int .i64 0) rfl;have d1:=hb2.at 1 (v:=.string ⟨#[]⟩) rfl;have d2:=hb2.at 2 (v:=.string ⟨#[]⟩) rfl;have d3:=hb2.at 3 (v:=.string ⟨#[]⟩) rfl;have f0:=hb2.fz 0;have f1:=hb2.fz 1;have f2:=hb2.fz 2;have f3:=hb2.fz 3;have hl:=hb2.lt;have HS2:=ns (H1.out.1.tt hs2);have HB2:=ns hb2;obtain⟨lB,hlB⟩:=Iu ((⟨(aU hB.data.toList).toArray⟩:ByteArray));have HLB:=ns hlB;have HPQ:=ns (BT hpB hqB);clear hs2 hb2 hlB hpB hqB d0 d1 d2 d3 f0 f1 f2 f3 hl;go_wp2_with fail;refine(eY HLB (by omega) _).mono ?_;rintro e w3 ⟨rfl,hs3⟩;have hb2:=HB2.out.sm hs3 (fun h=>h);have d0:=hb2.at 0 (v:=.int .i64 0) rfl;have d1:=hb2.at 1 (v:=.string ⟨#[]⟩) rfl;have d2:=hb2.at 2 (v:=.string ⟨#[]⟩) rfl;have d3:=hb2.at 3 (v:=.string ⟨#[]⟩) rfl;have f0:=hb2.fz 0;have f1:=hb2.fz 1;have f2:=hb2.fz 2;have f3:=hb2.fz 3;have hl:=hb2.lt;have HS3:=ns (HS2.out.tt hs3);have HB3:=ns hb2;clear hs3 hb2;go_wp2_with fail;have HT:=ns (cK (p:=.int .i64 2) (q:=.string lB) (r:=.string pB) (x:=.string qB) HS3.out HB3.out (Nat.le_of_eq H1.out.2.2));have c0:=HT.out.2.at 0 rfl;have c1:=HT.out.2.at 1 rfl;have c2:=HT.out.2.at 2 rfl;have c3:=HT.out.2.at 3 rfl;exact bodyPost_ret (v:=.tuple #[.agg #[.int .i64 2,.string lB,.string pB,.string qB],.int .i64 0]) (by simp [results,Tryz.results244,go_sem,c0,c1,c2,c3]) rfl ⟨HT.out.1,by
       rw [HE.out,HO.out];show _=Ending.returned (.tuple #[.agg #[.int .i64 2,.string ⟨(aU (ab hB)).toArray⟩,.string ⟨p.toArray⟩,.string ⟨q.toArray⟩],.int .i64 0]);rw [show (⟨(aU (ab hB)).toArray⟩:ByteArray)=lB from HLB.out,HPQ.out.1,HPQ.out.2]⟩
    ·have hlt0:=hlt;have hrz0:rB.size=s.size-k:=by rw [←hrB,ByteArray.size_extract];omega
     have h0:0 < rB.size:=by omega
     have hl0:ab rB=rB[0]::(ab rB).drop 1:=by
      have h:=List.drop_eq_getElem_cons (l:=ab rB) (i:=0) (by rw [ae];exact h0);rw [List.drop_zero] at h;exact h
     have hls:(ab s).drop k=s[k]::(ab s).drop (k+1):=bL s k hlt;have hrd:ab rB=(ab s).drop k:=by rw [←hrB,bQ]
     have hr00:rB[0]=47:=by
      rw [hrd,hls] at hl0;injection hl0 with h1 _;rw [←hc];exact h1.symm
     have x0:¬rB.toList=[]:=by
      rw [ByteArray.toList_eq];intro e;have:rB.size=0:=by rw [←ae];unfold ab;rw [e];rfl
      omega
     have x1:rB.toList.isEmpty=false:=by
      cases h:rB.toList with
      |nil=>exact absurd h x0
      |cons=>rfl
     have y1:((rB[0].toNat:Int)==47)=true:=by rw [hr00];rfl
     have y2:((rB[0].toNat:Int) != 47)=false:=by rw [hr00];rfl
     have hrt:ab rB=47::(ab rB).drop 1:=by rw [←hr00];exact hl0
     have hrr:ab rB=pC (ab rB):=by rw [hrt];rfl
     have hrz:rB.size≤100000:=by omega
     obtain⟨c,hc2⟩:=Iu (s[k]);have e0:c=47:=hc2.symm.trans hc;have hc256:=c.toNat_lt;have e1:((c.toNat:Int)==47)=true:=by rw [e0];rfl
     have e2:((c.toNat:Int)==63)=false:=by rw [e0];rfl
     have e3:((c.toNat:Int) != 47)=false:=by rw [e0];rfl
     have e4:((c.toNat:Int) != 63)=true:=by rw [e0];rfl
     have e5:(c.toNat:Int)=47:=by rw [e0];rfl
     clear hc e0 hl0 hls hrd hr00 hrt hrz0;have HE:=ns (show fm (ab s)=vv (ab hB) (cw (ab rB)) from by
      unfold fm;rw [if_pos (by rw [←HRT.out.1];exact HF.out),←HRT.out.2,←HRT.out.1,←hrr])
     obtain⟨O,hO⟩:=Iu (cw (ab rB));have HOg:=dp rB hrz w1;unfold bW at HOg;rw [hO] at HOg;have HOG:=ns HOg;have HO:=ns hO;clear HOg hO hrr;go_wp2_with fail
     with_reducible refine hcall.mono ?_
     rintro e w2 ⟨rfl,rfl⟩;go_wp2_with fail;refine HOG.out.mono ?_
     cases O with
     |none=>
      rintro e w2 ⟨hs2,pB,qB,rfl⟩;have hb2:=H1.out.2.1.sm hs2 (fun h=>h);have d0:=hb2.at 0 (v:=.int .i64 0) rfl;have d1:=hb2.at 1 (v:=.string ⟨#[]⟩) rfl;have d2:=hb2.at 2 (v:=.string ⟨#[]⟩) rfl;have d3:=hb2.at 3 (v:=.string ⟨#[]⟩) rfl;have f0:=hb2.fz 0;have f1:=hb2.fz 1;have f2:=hb2.fz 2;have f3:=hb2.fz 3;have hl:=hb2.lt;have HS2:=ns (H1.out.1.tt hs2);have HB2:=ns hb2;clear hs2 hb2;go_wp2_with fail;have HT:=ns (cK (p:=.int .i64 0) (q:=.string ⟨#[]⟩) (r:=.string ⟨#[]⟩) (x:=.string ⟨#[]⟩) HS2.out HB2.out (Nat.le_of_eq H1.out.2.2));have c0:=HT.out.2.at 0 rfl;have c1:=HT.out.2.at 1 rfl;have c2:=HT.out.2.at 2 rfl;have c3:=HT.out.2.at 3 rfl;exact bodyPost_ret (v:=.tuple #[.agg #[.int .i64 0,.string ⟨#[]⟩,.string ⟨#[]⟩,.string ⟨#[]⟩],.int .i64 8]) (by simp [results,Tryz.results244,go_sem,c0,c1,c2,c3]) rfl ⟨HT.out.1,by rw [HE.out,HO.out];rfl⟩
     |some x=>
      obtain⟨p,q⟩:=x;obtain⟨pB,hpB⟩:=Iu ((⟨p.toArray⟩:ByteArray));obtain⟨qB,hqB⟩:=Iu ((⟨q.toArray⟩:ByteArray));dsimp only;rw [hpB,hqB];rintro e w2 ⟨hs2,rfl⟩;have hb2:=H1.out.2.1.sm hs2 (fun h=>h);have d0:=hb2.at 0 (v:=.int .i64 0) rfl;have d1:=hb2.at 1 (v:=.string ⟨#[]⟩) rfl;have d2:=hb2.at 2 (v:=.string ⟨#[]⟩) rfl;have d3:=hb2.at 3 (v:=.string ⟨#[]⟩) rfl;have f0:=hb2.fz 0;have f1:=hb2.fz 1;have f2:=hb2.fz 2;have f3:=hb2.fz 3;have hl:=hb2.lt;have HS2:=ns (H1.out.1.tt hs2);have HB2:=ns hb2;obtain⟨lB,hlB⟩:=Iu ((⟨(aU hB.data.toList).toArray⟩:ByteArray));have HLB:=ns hlB;have HPQ:=ns (BT hpB hqB);clear hs2 hb2 hlB hpB hqB d0 d1 d2 d3 f0 f1 f2 f3 hl;go_wp2_with fail;refine(eY HLB (by omega) _).mono ?_;rintro e w3 ⟨rfl,hs3⟩;have hb2:=HB2.out.sm hs3 (fun h=>h);have d0:=hb2.at 0 (v:=.int .i64 0) rfl;have d1:=hb2.at 1 (v:=.string ⟨#[]⟩) rfl;have d2:=hb2.at 2 (v:=.string ⟨#[]⟩) rfl;have d3:=hb2.at 3 (v:=.string ⟨#[]⟩) rfl;have f0:=hb2.fz 0;have f1:=hb2.fz 1;have f2:=hb2.fz 2;have f3:=hb2.fz 3;have hl:=hb2.lt;have HS3:=ns (HS2.out.tt hs3);have HB3:=ns hb2;clear hs3 hb2;go_wp2_with fail;have HT:=ns (cK (p:=.int .i64 2) (q:=.string lB) (r:=.string pB) (x:=.string qB) HS3.out HB3.out (Nat.le_of_eq H1.out.2.2));have c0:=HT.out.2.at 0 rfl;have c1:=HT.out.2.at 1 rfl;have c2:=HT.out.2.at 2 rfl;have c3:=HT.out.2.at 3 rfl;exact bodyPost_ret (v:=.tuple #[.agg #[.int .i64 2,.string lB,.string pB,.string qB],.int .i64 0]) (by simp [results,Tryz.results244,go_sem,c0,c1,c2,c3]) rfl ⟨HT.out.1,by
       rw [HE.out,HO.out];show _=Ending.returned (.tuple #[.agg #[.int .i64 2,.string ⟨(aU (ab hB)).toArray⟩,.string ⟨p.toArray⟩,.string ⟨q.toArray⟩],.int .i64 0]);rw [show (⟨(aU (ab hB)).toArray⟩:ByteArray)=lB from HLB.out,HPQ.out.1,HPQ.out.2]⟩
    ·have hlt0:=hlt;have hrz0:rB.size=s.size-k:=by rw [←hrB,ByteArray.size_extract];omega
     have h0:0 < rB.size:=by omega
     have hl0:ab rB=rB[0]::(ab rB).drop 1:=by
      have h:=List.drop_eq_getElem_cons (l:=ab rB) (i:=0) (by rw [ae];exact h0);rw [List.drop_zero] at h;exact h
     have hls:(ab s).drop k=s[k]::(ab s).drop (k+1):=bL s k hlt;have hrd:ab rB=(ab s).drop k:=by rw [←hrB,bQ]
     have hr00:rB[0]=63:=by
      rw [hrd,hls] at hl0;injection hl0 with h1 _;rw [←hc];exact h1.symm
     have x0:¬rB.toList=[]:=by
      rw [ByteArray.toList_eq];intro e;have:rB.size=0:=by rw [←ae];unfold ab;rw [e];rfl
      omega
     have x1:rB.toList.isEmpty=false:=by
      cases h:rB.toList with
      |nil=>exact absurd h x0
      |cons=>rfl
     have y1:((rB[0].toNat:Int)==47)=false:=by rw [hr00];rfl
     have y2:((rB[0].toNat:Int) != 47)=true:=by rw [hr00];rfl
     have hrt:ab rB=63::(ab rB).drop 1:=by rw [←hr00];exact hl0
     have hbz:rB.size≤90000:=by omega
     obtain⟨rr,hr1⟩:∃ rr:ByteArray,(⟨#[47]⟩:ByteArray)++rB=rr:=⟨_,rfl⟩;have hrr:ab rr=pC (ab rB):=by
      have e:ab rr=47::ab rB:=by rw [←hr1];simp [ab]
      rw [e,hrt];rfl
     have hrz:rr.size≤100000:=by rw [←hr1,ByteArray.size_append];show 1+rB.size≤100000;omega
     obtain⟨c,hc2⟩:=Iu (s[k]);have e0:c=63:=hc2.symm.trans hc;have hc256:=c.toNat_lt;have e1:((c.toNat:Int)==47)=false:=by rw [e0];rfl
     have e2:((c.toNat:Int)==63)=true:=by rw [e0];rfl
     have e3:((c.toNat:Int) != 47)=true:=by rw [e0];rfl
     have e4:((c.toNat:Int) != 63)=false:=by rw [e0];rfl
     have e5:(c.toNat:Int)=63:=by rw [e0];rfl
     have HR1:=ns hr1;clear hc e0 hl0 hls hrd hr00 hrt hr1 hrz0;have HE:=ns (show fm (ab s)=vv (ab hB) (cw (ab rr)) from by
      unfold fm;rw [if_pos (by rw [←HRT.out.1];exact HF.out),←HRT.out.2,←HRT.out.1,←hrr])
     obtain⟨O,hO⟩:=Iu (cw (ab rr));have HOg:=dp rr hrz w1;unfold bW at HOg;rw [hO] at HOg;have HOG:=ns HOg;have HO:=ns hO;clear HOg hO hrr;go_wp2_with fail
     with_reducible refine hcall.mono ?_
     rintro e w2 ⟨rfl,rfl⟩;go_wp2_with fail;rw [HR1.out];refine HOG.out.mono ?_
     cases O with
     |none=>
      rintro e w2 ⟨hs2,pB,qB,rfl⟩;have hb2:=H1.out.2.1.sm hs2 (fun h=>h);have d0:=hb2.at 0 (v:=.int .i64 0) rfl;have d1:=hb2.at 1 (v:=.string ⟨#[]⟩) rfl;have d2:=hb2.at 2 (v:=.string ⟨#[]⟩) rfl;have d3:=hb2.at 3 (v:=.string ⟨#[]⟩) rfl;have f0:=hb2.fz 0;have f1:=hb2.fz 1;have f2:=hb2.fz 2;have f3:=hb2.fz 3;have hl:=hb2.lt;have HS2:=ns (H1.out.1.tt hs2);have HB2:=ns hb2;clear hs2 hb2;go_wp2_with fail;have HT:=ns (cK (p:=.int .i64 0) (q:=.string ⟨#[]⟩) (r:=.string ⟨#[]⟩) (x:=.string ⟨#[]⟩) HS2.out HB2.out (Nat.le_of_eq H1.out.2.2));have c0:=HT.out.2.at 0 rfl;have c1:=HT.out.2.at 1 rfl;have c2:=HT.out.2.at 2 rfl;have c3:=HT.out.2.at 3 rfl;exact bodyPost_ret (v:=.tuple #[.agg #[.int .i64 0,.string ⟨#[]⟩,.string ⟨#[]⟩,.string ⟨#[]⟩],.int .i64 8]) (by simp [results,Tryz.results244,go_sem,c0,c1,c2,c3]) rfl ⟨HT.out.1,by rw [HE.out,HO.out];rfl⟩
     |some x=>
      obtain⟨p,q⟩:=x;obtain⟨pB,hpB⟩:=Iu ((⟨p.toArray⟩:ByteArray));obtain⟨qB,hqB⟩:=Iu ((⟨q.toArray⟩:ByteArray));dsimp only;rw [hpB,hqB];rintro e w2 ⟨hs2,rfl⟩;have hb2:=H1.out.2.1.sm hs2 (fun h=>h);have d0:=hb2.at 0 (v:=.int .i64 0) rfl;have d1:=hb2.at 1 (v:=.string ⟨#[]⟩) rfl;have d2:=hb2.at 2 (v:=.string ⟨#[]⟩) rfl;have d3:=hb2.at 3 (v:=.string ⟨#[]⟩) rfl;have f0:=hb2.fz 0;have f1:=hb2.fz 1;have f2:=hb2.fz 2;have f3:=hb2.fz 3;have hl:=hb2.lt;have HS2:=ns (H1.out.1.tt hs2);have HB2:=ns hb2;obtain⟨lB,hlB⟩:=Iu ((⟨(aU hB.data.toList).toArray⟩:ByteArray));have HLB:=ns hlB;have HPQ:=ns (BT hpB hqB);clear hs2 hb2 hlB hpB hqB d0 d1 d2 d3 f0 f1 f2 f3 hl;go_wp2_with fail;refine(eY HLB (by omega) _).mono ?_;rintro e w3 ⟨rfl,hs3⟩;have hb2:=HB2.out.sm hs3 (fun h=>h);have d0:=hb2.at 0 (v:=.int .i64 0) rfl;have d1:=hb2.at 1 (v:=.string ⟨#[]⟩) rfl;have d2:=hb2.at 2 (v:=.string ⟨#[]⟩) rfl;have d3:=hb2.at 3 (v:=.string ⟨#[]⟩) rfl;have f0:=hb2.fz 0;have f1:=hb2.fz 1;have f2:=hb2.fz 2;have f3:=hb2.fz 3;have hl:=hb2.lt;have HS3:=ns (HS2.out.tt hs3);have HB3:=ns hb2;clear hs3 hb2;go_wp2_with fail;have HT:=ns (cK (p:=.int .i64 2) (q:=.string lB) (r:=.string pB) (x:=.string qB) HS3.out HB3.out (Nat.le_of_eq H1.out.2.2));have c0:=HT.out.2.at 0 rfl;have c1:=HT.out.2.at 1 rfl;have c2:=HT.out.2.at 2 rfl;have c3:=HT.out.2.at 3 rfl;exact bodyPost_ret (v:=.tuple #[.agg #[.int .i64 2,.string lB,.string pB,.string qB],.int .i64 0]) (by simp [results,Tryz.results244,go_sem,c0,c1,c2,c3]) rfl ⟨HT.out.1,by
       rw [HE.out,HO.out];show _=Ending.returned (.tuple #[.agg #[.int .i64 2,.string ⟨(aU (ab hB)).toArray⟩,.string ⟨p.toArray⟩,.string ⟨q.toArray⟩],.int .i64 0]);rw [show (⟨(aU (ab hB)).toArray⟩:ByteArray)=lB from HLB.out,HPQ.out.1,HPQ.out.2]⟩
def gd:af:=[67,79,78,78,69,67,84]
def gU:af:=[79,80,84,73,79,78,83]
def fy:af:=[104,116,116,112,58,47,47]
def cG(m s:af):Option Tg × Int:=
 if 200 < s.length then (none,9) else
 if m=gd then (if bR s=true∧lX 58 s=true then (some ⟨3,aU s,[],[]⟩,0) else (none,8)) else
 if m=gU∧s=[42] then (some ⟨4,[],[],[]⟩,0) else
 if s.head?=some 47 then (match cw s with
  |some (p,q)=>(some ⟨1,[],p,q⟩,0)
  |none=>(none,8)) else
 if bA (s.take 7) fy=true∧7≤s.length then (fm (s.drop 7),8) else (none,8)
end Go.Proofs.YtcflkcbogofgbaaGreatDoor
