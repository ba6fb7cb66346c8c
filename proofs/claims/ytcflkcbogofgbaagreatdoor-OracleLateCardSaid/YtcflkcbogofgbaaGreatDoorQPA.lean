import Derived.Test.YtcflkcbogofgbaaGreatDoorQP
import Derived.Test.YtcflkcbogofgbaaGreatDoorQShelf
import Derived.Lib.Atoi
import Derived.Lib.SmallJoins
import Derived.Test.YtcflkcbogofgbaaGreatDoorQO
import Derived.Test.YtcflkcbogofgbaaGreatDoorQF
set_option maxHeartbeats 16000000
set_option maxRecDepth 100000
namespace Go.Proofs.YtcflkcbogofgbaaGreatDoor
open Go.RowKit Go.Proofs
theorem zW{p:UInt8→Bool}{l:af}:l.dropWhile p=[]↔l.all p=true:=by
 induction l with
 |nil=>simp
 |cons c l ih=>
  cases h:p c with
  |true=>rw [List.dropWhile_cons_of_pos h,ih,List.all_cons,h,Bool.true_and]
  |false=>rw [List.dropWhile_cons_of_neg (by simp [h]),List.all_cons,h,Bool.false_and];simp
theorem Bw{p:UInt8→Bool}{l:af}{c:UInt8}(h:c∈l)(hc:p c=false):c∈l.dropWhile p:=by
 induction l with
 |nil=>cases h
 |cons d l ih=>
  cases hd:p d with
  |true=>
   rw [List.dropWhile_cons_of_pos hd];rcases List.mem_cons.1 h with rfl|h
   ·rw [hd] at hc;cases hc
   ·exact ih h
  |false=>rw [List.dropWhile_cons_of_neg (by simp [hd])];exact h
theorem Bz(l cs:af):Lib.trimS l cs=[]↔l.all (fun c=>cs.contains c)=true:=by
 unfold Lib.trimS Lib.trimLeftS Lib.trimRightS;rw [zW];constructor
 ·intro h;rw [List.all_eq_true];intro c hc
  cases hp:cs.contains c with
  |true=>rfl
  |false=>
   have h1:c∈(l.reverse.dropWhile fun c=>cs.contains c).reverse:=List.mem_reverse.2 (Bw (List.mem_reverse.2 hc) hp);have:=List.all_eq_true.1 h c h1;rw [hp] at this;exact this
 ·intro h;rw [List.all_eq_true] at h ⊢;intro c hc;exact h c (List.mem_reverse.1 ((List.dropWhile_sublist _).subset (List.mem_reverse.1 hc)))
def sD:ByteArray:=⟨#[48,49,50,51,52,53,54,55,56,57]⟩
def td:ByteArray:=⟨#[48,49,50,51,52,53,54,55,56,57,97,98,99,100,101,102,65,66,67,68,69,70]⟩
theorem DF(c:UInt8):sD.data.toList.contains c=decide (0≤aG c∧aG c < 10):=by
 have:=cW (fun c=>sD.data.toList.contains c==decide (0≤aG c∧aG c < 10)) (by decide+kernel) c;simpa using this
theorem C3(c:UInt8):td.data.toList.contains c=decide (0≤aG c∧aG c < 16):=by
 have:=cW (fun c=>td.data.toList.contains c==decide (0≤aG c∧aG c < 16)) (by decide+kernel) c;simpa using this
theorem kG{b:Int}:∀ (l:af) (n:Int),(l.all fun c=>decide (0≤aG c∧aG c < b))=(dH b l n).isSome
 |[],_=>rfl
 |c::l,n=>by
  rw [List.all_cons];unfold dH;by_cases h:aG c < 0∨b≤aG c
  ·rw [if_pos h,decide_eq_false (by omega)];rfl
  ·rw [if_neg h,decide_eq_true (by omega),Bool.true_and];exact kG l _
theorem sg:∀ (l:af) (n:Nat),(∀ c∈l,0≤aG c∧aG c < 10)→dH 10 l n=(Lib.decFrom n l).map fun (m:Nat)=>(m:Int)
 |[],_,_=>rfl
 |c::l,n,h=>by
  have hc:=h c List.mem_cons_self;have h1:48≤c.toNat∧c.toNat≤57∧aG c=(c.toNat:Int)-48:=by
   have:=cW (fun c=>decide (0≤aG c∧aG c < 10→48≤c.toNat∧c.toNat≤57∧aG c=(c.toNat:Int)-48)) (by decide+kernel) c;exact of_decide_eq_true this hc
  unfold dH Lib.decFrom Lib.digitVal;rw [if_neg (by omega),if_pos ⟨h1.1,h1.2.1⟩];have e:(n:Int) * 10+aG c=((n * 10+(c.toNat-48):Nat):Int):=by omega
  rw [e];exact sg l _ (fun d hd=>h d (List.mem_cons_of_mem _ hd))
theorem Cy{l:af}{n:Int}(h0:l≠[])(h:dH 10 l 0=some n):Lib.atoi l=some n:=by
 have ha:=kG (b:=10) l 0;rw [h] at ha;have ha:∀ c∈l,0≤aG c∧aG c < 10:=fun c hc=>by simpa using List.all_eq_true.1 ha c hc
 have hd:=sg l 0 ha
 cases l with
 |nil=>exact absurd rfl h0
 |cons c r=>
  have hc:=ha c List.mem_cons_self;have h1:c≠45∧c≠43:=by
   have:=cW (fun c=>decide (0≤aG c∧aG c < 10→c≠45∧c≠43)) (by decide+kernel) c;exact of_decide_eq_true this hc
  unfold Lib.atoi;dsimp only;rw [if_neg (by simpa using h1.1),if_neg (by simpa using h1.2)];unfold Lib.decNat;rw [if_neg (by simp),←hd];exact h
theorem xy(s of:ByteArray)(m:Nat)(hs:s.size≤1000000)(ho:of.size≤1000)(ha:of.data.toList.all (fun b=>decide (b.toNat < 128))=true)(w:World):
 Calls Tryz.prog 294 #[.string s,.string of,.int .i64 m] w fun e w'=>e=.returned (.bool (decide (1≤s.size)&&(decide (s.size≤m)&&s.data.toList.all fun c=>of.data.toList.contains c)))∧Sm No w w':=by
 have hcon:=fun (w:World)=>Any.strings_Trim_laid Tryz.lays160 (by kernel_rfl) s of w (by omega) (by omega) (ascii_of_all ha);obtain⟨r,hr⟩:=Iu ((⟨(Lib.trimS s.data.toList of.data.toList).toArray⟩:ByteArray));have hrl:r.data.toList=[]↔(s.data.toList.all fun c=>of.data.toList.contains c)=true:=by rw [←hr];exact Bz _ _
 obtain⟨al,hal⟩:∃ al,(s.data.toList.all fun c=>of.data.toList.contains c)=al:=⟨_,rfl⟩;rw [hal] at hrl ⊢
 change ∀ w,Calls Tryz.prog 122 _ _ (fun e w'=>e=.returned (.string ⟨(Lib.trimS s.data.toList of.data.toList).toArray⟩)∧Below w.heap.size w w') at hcon
 rw [hr] at hcon;have HCon:=ns hcon;have HRL:=ns hrl;clear hcon hrl hr hal ha;go_in;by_cases h0:s.size=0
 ·have e1:s.toList=[]:=by rw [ByteArray.toList_eq];exact List.eq_nil_of_length_eq_zero (by simpa using h0)
  have d1:decide (1≤s.size)=false:=decide_eq_false (by omega);rw [d1,Bool.false_and];go_wp2_with fail;go_ret;exact⟨rfl,Sm.refl _ _⟩
 ·have d1:decide (1≤s.size)=true:=decide_eq_true (by omega);have e1:¬s.toList=[]:=fun e=>by
   rw [ByteArray.toList_eq] at e;exact h0 (by have:=congrArg List.length e;simpa using this)
  have e2:s.toList.isEmpty=false:=by cases h:s.toList with
   |nil=>exact absurd h e1
   |cons=>rfl
  rw [d1,Bool.true_and];by_cases hle:s.size≤m
  ·have d2:decide (s.size≤m)=true:=decide_eq_true hle;have d3:decide ((s.size:Int)≤(m:Int))=true:=decide_eq_true (by omega);have i3:(s.size:Int)≤(m:Int):=by omega
   rw [d2,Bool.true_and];go_wp2_with fail;refine(HCon.out _).mono ?_;rintro e w1 ⟨rfl,hB⟩;have HB:=ns hB;clear hB
   cases al with
   |true=>
    have e3:r.toList=[]:=by rw [ByteArray.toList_eq];exact HRL.out.2 rfl
    go_wp2_with fail;go_ret;exact⟨by simp,Sm.of_below HB.out No⟩
   |false=>
    have e3:¬r.toList=[]:=fun e=>by rw [ByteArray.toList_eq] at e;exact absurd (HRL.out.1 e) (by decide)
    go_wp2_with fail;go_ret;exact⟨by simp [e3],Sm.of_below HB.out No⟩
  ·have d2:decide (s.size≤m)=false:=decide_eq_false hle;have d3:decide ((s.size:Int)≤(m:Int))=false:=decide_eq_false (by omega);have i3:¬(s.size:Int)≤(m:Int):=by omega
   rw [d2,Bool.false_and];go_wp2_with fail;go_ret;exact⟨rfl,Sm.refl _ _⟩
theorem yz{b:Int}{m:Nat}{l:af}(h:¬(l.length < 1∨m < l.length)):ei b m l=match dH b l 0 with
 |some n=>(n,true)
 |none=>(0,false):=by
 unfold ei;rw [if_neg h]
 cases dH b l 0<;>rfl
theorem pc{s of:ByteArray}{m:Nat}{b:Bool}(hb:Hid ((decide (1≤s.size)&&(decide (s.size≤m)&&s.data.toList.all fun c=>of.data.toList.contains c))=b))(hs:s.size≤1000000)(ho:of.size≤1000)(ha:of.data.toList.all (fun b=>decide (b.toNat < 128))=true)(w:World):
 Calls Tryz.prog 294 #[.string s,.string of,.int .i64 m] w fun e w'=>e=.returned (.bool b)∧Sm No w w':=by
 rw [←hb.out];exact xy s of m hs ho ha w
theorem nk{b:Int}{m:Nat}{s of:ByteArray}(h:∀ c,of.data.toList.contains c=decide (0≤aG c∧aG c < b)):
 ((decide (1≤s.size)&&(decide (s.size≤m)&&s.data.toList.all fun c=>of.data.toList.contains c))=false∧ei b m (ab s)=(0,false))∨
 ((decide (1≤s.size)&&(decide (s.size≤m)&&s.data.toList.all fun c=>of.data.toList.contains c))=true∧∃ n,dH b (ab s) 0=some n∧ei b m (ab s)=(n,true)∧1≤s.size∧s.size≤m):=by
 have e:(s.data.toList.all fun c=>of.data.toList.contains c)=(dH b (ab s) 0).isSome:=by
  rw [←kG (b:=b) (ab s) 0];unfold ab;congr 1
  funext c
  exact h c
 have hl:(ab s).length=s.size:=ae s;rw [e];by_cases h1:1≤s.size
 ·by_cases h2:s.size≤m
  ·rw [decide_eq_true h1,decide_eq_true h2,yz (by omega)]
   cases hn:dH b (ab s) 0 with
   |none=>exact Or.inl ⟨rfl,rfl⟩
   |some n=>exact Or.inr ⟨rfl,n,rfl,rfl,h1,h2⟩
  ·rw [decide_eq_false h2];refine Or.inl ⟨by simp,?_⟩;unfold ei;rw [if_pos (by omega)]
 ·rw [decide_eq_false h1];refine Or.inl ⟨by simp,?_⟩;unfold ei;rw [if_pos (by omega)]
theorem FH(s:ByteArray)(hs:s.size≤1000000)(w:World):
 Calls Tryz.prog 283 #[.string s] w fun e w'=>e=.returned (.tuple #[.int .i64 (ei 10 15 (ab s)).1,.bool (ei 10 15 (ab s)).2])∧Sm No w w':=by
 have hd:=nk (b:=10) (m:=15) (s:=s) DF;obtain⟨R,hR⟩:=Iu (ei 10 15 (ab s));rw [hR] at hd ⊢;obtain⟨b,hb⟩:∃ b,(decide (1≤s.size)&&(decide (s.size≤15)&&s.data.toList.all fun c=>sD.data.toList.contains c))=b:=⟨_,rfl⟩;rw [hb] at hd;have HB:=ns hb;have HD:=ns hd;clear hb hd hR;have HDg:=ns (pc (of:=sD) (m:=15) HB hs (by decide) (by decide+kernel) w);unfold sD at HDg;go_in;go_wp2_with fail;refine HDg.out.mono ?_;rintro e w1 ⟨rfl,hs1⟩;have H1:=ns hs1;clear hs1
 cases b with
 |false=>
  have HR:=ns (show R=(0,false) from by
   rcases HD.out with h|h
   ·exact h.2
   ·exact absurd h.1 (by decide))
  go_wp2_with fail;go_ret2;rw [HR.out];exact⟨rfl,H1.out⟩
 |true=>
  obtain⟨n,hn,hRn,h1,h2⟩:=(HD.out.resolve_left (fun h=>absurd h.1 (by decide))).2;have HA:=ns (Any.strconv_Atoi Tryz.lays172 s n (by omega) (Cy (fun e=>by
   have h3:(ab s).length=0:=by
    have e:ab s=[]:=e;rw [e];rfl
   rw [ae] at h3;omega) hn) w1)
  have HRn:=ns hRn;clear hn hRn h1 h2;go_wp2_with fail;refine HA.out.mono ?_;rintro e w2 ⟨rfl,t,hw2⟩;have H2:=ns (show Sm No w w2 from by
   rw [hw2];exact H1.out.tt (Sm.of_below (Joins.below_bytesWorld _ _ _ _ (Nat.le_refl _)) No))
  clear hw2;go_wp2_with fail;go_ret2;rw [HRn.out];exact⟨rfl,H2.out⟩
def IY(s:ByteArray)(w1:World)(uv nv iv:Value)(wr:World):Prop:=∃ (k:Nat) (a:Int),k≤s.size∧uv=.bool false∧nv=.int .u64 a∧iv=.int .i64 k∧0≤a∧a < 16 ^ k∧dH 16 (ab s) 0=dH 16 ((ab s).drop k) a∧wr=w1
theorem B8(c:UInt8):¬(48≤c.toNat∧c.toNat≤57)→0≤aG c→bits .or .u8 (c.toNat:Int) 32=aG c+87∧10≤aG c∧aG c≤15:=by
 have:=cW (fun c=>decide (¬(48≤c.toNat∧c.toNat≤57)→0≤aG c→bits .or .u8 (c.toNat:Int) 32=aG c+87∧10≤aG c∧aG c≤15)) (by decide+kernel) c;exact of_decide_eq_true this
theorem CM(c:UInt8):(48≤c.toNat∧c.toNat≤57)→aG c=(c.toNat:Int)-48:=by
 intro h;unfold aG;rw [if_pos h]
theorem BN(c:UInt8):0≤aG c→c.toNat≠95:=by
 have:=cW (fun c=>decide (0≤aG c→c.toNat≠95)) (by decide+kernel) c;exact of_decide_eq_true this
theorem If{k:Nat}(h:k≤11):(16:Int) ^ k≤17592186044416:=by
 have:(16:Int) ^ k≤16 ^ 11:=by exact_mod_cast Nat.pow_le_pow_right (by decide) h
 have e:(16:Int) ^ 11=17592186044416:=by decide
 omega
theorem tZ(s:ByteArray)(n:Int)(h1:1≤s.size)(h2:s.size≤12)(hn:dH 16 (ab s) 0=some n)(w:World):
 Calls Tryz.prog 309 #[.string s,.int .i64 16,.int .i64 64] w fun e w'=>e=.returned (.tuple #[.int .u64 n,.nilIface])∧Sm No w w':=by
 have HN:=ns hn;clear hn;have e1:¬s.toList=[]:=fun e=>by
  rw [ByteArray.toList_eq] at e;have:=congrArg List.length e;have h3:s.size=0:=by simpa using this
  omega
 have e2:s.toList.isEmpty=false:=by cases h:s.toList with
  |nil=>exact absurd h e1
  |cons=>rfl
 have hmv:IntKind.u64.wrap (IntKind.u64.wrap 18446744073709551616-1)=18446744073709551615:=by
  rw [IntKind.wrap_u64,IntKind.wrap_u64];decide
 have hcv:=Lib.run_convert_string_bytes (P:=Tryz.prog) w 9 22 5 s (u:=.string) Tryz.underlying9 Tryz.underlying22 Tryz.underlying5;have hB:∀ j,(hj:j < s.size)→(Lib.bytesWorld w 5 s).cell? ⟨w.heap.size,j,none⟩=some (.int .u8 (s[j]).toNat):=fun j hj=>by
  rw [Lib.bytesWorld_cell w 5 s j hj];congr 3;have h3:s.data.toList.getD j 0=s[j]:=by
   rw [List.getD_eq_getElem?_getD,List.getElem?_eq_getElem (by simp;exact hj)];rfl
  rw [h3]
 have hsm:Sm No w (Lib.bytesWorld w 5 s):=Sm.of_below (Joins.below_bytesWorld _ _ _ _ (Nat.le_refl _)) No;obtain⟨w1,hw1⟩:∃ w1,w1=Lib.bytesWorld w 5 s:=⟨_,rfl⟩;rw [←hw1] at hcv hB hsm;have HB:=ns hB;have H1:=ns hsm;clear hB hsm hw1;go_in;go_wp2_with fail;clear hcv hmv
 go_loopw [12,13,101] (fun uv nv iv wr=>IY s w1 uv nv iv wr) (fun _ _ iv _=>s.size-(intOf iv).toNat)
 case atStart=>exact⟨0,0,Nat.zero_le _,rfl,rfl,rfl,Int.le_refl _,by decide,rfl,rfl⟩
 case round=>
  obtain⟨k,a,hk,rfl,rfl,rfl,ha0,ha1,hf,rfl⟩:=hrel;by_cases hlt:k < s.size
  ·have hst:=qr (b:=16) (a:=a) hlt;have r1:=HB.out k hlt;obtain⟨c,hc⟩:=Iu (s[k]);rw [hc] at hst r1;have hd:0≤aG c∧aG c < 16:=by
    by_cases hb:aG c < 0∨16≤aG c
    ·rw [hst,if_pos hb,HN.out] at hf;cases hf
    ·omega
   rw [if_neg (by omega)] at hst;have hp:=If (k:=k) (by omega);have HF:=ns (hf.trans hst);have hu:=BN c hd.1;have hl:=B8 c;have hdb:=CM c;have hct:=c.toNat_lt;have HP:=ns (show a * 16+aG c < 16 ^ (k+1) from by rw [Int.pow_succ];omega);obtain⟨d,hde⟩:=Iu (aG c);rw [hde] at hd hl hdb HF HP;obtain⟨nc,hnc⟩:=Iu c.toNat;rw [hnc] at r1 hu hl hdb hct;have k1:(0:Int)≤(k:Int):=by omega
   have k2:(k:Int) < (s.size:Int):=by omega
   have i0:¬(nc:Int)=95:=by omega
   have i1:((nc:Int)==95)=false:=by rw [beq_eq_false_iff_ne];exact i0
   clear hst hf hde hnc hc;by_cases hdig:48≤nc∧nc≤57
   ·have hdd:=hdb hdig;have j1:(48:Int)≤(nc:Int):=by omega
    have j2:(nc:Int)≤57:=by omega
    clear hl hdb;go_wp2_with fail;rw [show (nc:Int)-48=d from by omega];exact⟨⟨k+1,a * 16+d,by omega,rfl,rfl,by go_num,by omega,HP.out,HF.out,rfl⟩,by simp [intOf];omega⟩
   ·obtain⟨l1,l2,l3⟩:=hl hdig hd.1;have HLow:=ns (fun (W:World)=>Tryz.internal_strconv_lower (nc:Int) W);rw [l1] at HLow;have jd:(decide ((48:Int)≤(nc:Int))&&decide ((nc:Int)≤57))=false:=by
     rw [Bool.and_eq_false_iff];by_cases h48:(48:Int)≤(nc:Int)
     ·exact Or.inr (decide_eq_false (by omega))
     ·exact Or.inl (decide_eq_false h48)
    clear hl hdb l1;by_cases h48:(48:Int)≤(nc:Int)
    ·have j2:¬(nc:Int)≤57:=by omega
     clear jd;go_wp2_with (first|(go_at_call 312;refine(HLow.out _).mono ?_;rintro e w2 ⟨rfl,rfl⟩));rw [show d+87-97+10=d from by omega];exact⟨⟨k+1,a * 16+d,by omega,rfl,rfl,by go_num,by omega,HP.out,HF.out,rfl⟩,by simp [intOf];omega⟩
    ·clear jd;go_wp2_with (first|(go_at_call 312;refine(HLow.out _).mono ?_;rintro e w2 ⟨rfl,rfl⟩));rw [show d+87-97+10=d from by omega];exact⟨⟨k+1,a * 16+d,by omega,rfl,rfl,by go_num,by omega,HP.out,HF.out,rfl⟩,by simp [intOf];omega⟩
  ·obtain rfl:k=s.size:=by omega
   have hna:n=a:=by
    have h3:=HN.out;rw [hf,List.drop_of_length_le (by rw [ae];exact Nat.le_refl _)] at h3;injection h3 with h3;exact h3.symm
   subst hna;clear hf;go_wp2_with fail;go_ret2;exact⟨rfl,H1.out⟩
theorem BJ{s:ByteArray}{n:Int}(h2:s.size≤12)(hn:dH 16 (ab s) 0=some n):0≤n∧n < 281474976710656:=by
 obtain⟨h3,h4⟩:=mR (Or.inr rfl) (k:=0) hn (Int.le_refl _) (by decide);refine⟨h3,?_⟩;have h5:(16:Int) ^ (0+(ab s).length)≤16 ^ 12:=by exact_mod_cast Nat.pow_le_pow_right (by decide) (by rw [ae];omega)
 have h6:(16:Int) ^ 12=281474976710656:=by decide
 omega
theorem wm(s:ByteArray)(n:Int)(h1:1≤s.size)(h2:s.size≤12)(hn:dH 16 (ab s) 0=some n)(w:World):
 Calls Tryz.prog 302 #[.string s,.int .i64 16,.int .i64 64] w fun e w'=>e=.returned (.tuple #[.int .i64 n,.nilIface])∧Sm No w w':=by
 obtain⟨n0,n1⟩:=BJ h2 hn;have HU:=ns (tZ s n h1 h2 hn);have e1:¬s.toList=[]:=fun e=>by
  rw [ByteArray.toList_eq] at e;have:=congrArg List.length e;have h3:s.size=0:=by simpa using this
  omega
 have e2:s.toList.isEmpty=false:=by cases h:s.toList with
  |nil=>exact absurd h e1
  |cons=>rfl
 obtain⟨c,m,hm⟩:∃ c m,ab s=c::m:=by
  cases ht:ab s with
  |nil=>have h3:=ae s;rw [ht] at h3;simp at h3;omega
  |cons c m=>exact⟨c,m,rfl⟩
 have hc:0≤aG c:=by
  rw [hm] at hn;unfold dH at hn;split at hn
  ·cases hn
  ·rename_i h;omega
 have hcs:s[0]'(by omega)=c:=by
  have h3:(ab s)[0]?=some c:=by rw [hm];rfl
  unfold ab at h3;rw [List.getElem?_eq_getElem (by simp;omega)] at h3;injection h3 with h3
 have hp:c.toNat≠43∧c.toNat≠45:=by
  have:=cW (fun c=>decide (0≤aG c→c.toNat≠43∧c.toNat≠45)) (by decide+kernel) c;exact of_decide_eq_true this hc
 have i1:¬(c.toNat:Int)=43:=by omega
 have i2:¬(c.toNat:Int)=45:=by omega
 have i3:((c.toNat:Int)==43)=false:=by rw [beq_eq_false_iff_ne];exact i1
 have i4:((c.toNat:Int)==45)=false:=by rw [beq_eq_false_iff_ne];exact i2
 clear hn hm hc hp;go_in;go_wp2_with fail;refine(HU.out _).mono ?_;rintro e w1 ⟨rfl,hs1⟩;have H1:=ns hs1;clear hs1;go_wp2_with fail;go_ret2;exact⟨rfl,H1.out⟩
theorem rm(s:ByteArray)(n:Int)(h1:1≤s.size)(h2:s.size≤12)(hn:dH 16 (ab s) 0=some n)(w:World):
 Calls Tryz.prog 297 #[.string s,.int .i64 16,.int .i64 64] w fun e w'=>e=.returned (.tuple #[.int .i64 n,.nilIface])∧Sm No w w':=by
 have HI:=ns (wm s n h1 h2 hn);clear hn;go_in;go_wp2_with fail;refine(HI.out _).mono ?_;rintro e w1 ⟨rfl,hs1⟩;have H1:=ns hs1;clear hs1;go_wp2_with fail;go_ret2;exact⟨rfl,H1.out⟩
theorem yB(s:ByteArray)(hs:s.size≤1000000)(w:World):
 Calls Tryz.prog 287 #[.string s] w fun e w'=>e=.returned (.tuple #[.int .i64 (ei 16 12 (ab s)).1,.bool (ei 16 12 (ab s)).2])∧Sm No w w':=by
 have hd:=nk (b:=16) (m:=12) (s:=s) C3;obtain⟨R,hR⟩:=Iu (ei 16 12 (ab s));rw [hR] at hd ⊢;obtain⟨b,hb⟩:∃ b,(decide (1≤s.size)&&(decide (s.size≤12)&&s.data.toList.all fun c=>td.data.toList.contains c))=b:=⟨_,rfl⟩;rw [hb] at hd;have HB:=ns hb;have HD:=ns hd;clear hb hd hR;have HDg:=ns (pc (of:=td) (m:=12) HB hs (by decide) (by decide+kernel) w);unfold td at HDg;go_in;go_wp2_with fail;refine HDg.out.mono ?_;rintro e w1 ⟨rfl,hs1⟩;have H1:=ns hs1;clear hs1
 cases b with
 |false=>
  have HR:=ns (show R=(0,false) from by
   rcases HD.out with h|h
   ·exact h.2
   ·exact absurd h.1 (by decide))
  go_wp2_with fail;go_ret2;rw [HR.out];exact⟨rfl,H1.out⟩
 |true=>
  obtain⟨n,hn,hRn,h1,h2⟩:=(HD.out.resolve_left (fun h=>absurd h.1 (by decide))).2;have HI:=ns (fun W=>rm s n h1 h2 hn W);have HRn:=ns hRn;clear hn hRn h1 h2;go_wp2_with fail;refine(HI.out _).mono ?_;rintro e w2 ⟨rfl,hs2⟩;have H2:=ns (H1.out.tt hs2);clear hs2;go_wp2_with fail;go_ret2;rw [HRn.out];exact⟨rfl,H2.out⟩
theorem EJ(c:UInt8):it c=decide ((97≤c.toNat∧c.toNat≤122)∨(65≤c.toNat∧c.toNat≤90)∨(48≤c.toNat∧c.toNat≤57)):=by
 have:=cW (fun c=>it c==decide ((97≤c.toNat∧c.toNat≤122)∨(65≤c.toNat∧c.toNat≤90)∨(48≤c.toNat∧c.toNat≤57))) (by decide+kernel) c;simpa using this
theorem tz(c:UInt8)(w:World):Calls Tryz.prog 296 #[.int .u8 c.toNat] w fun e w'=>e=.returned (.bool (it c))∧w=w':=by
 have hc:=c.toNat_lt;have hb:=EJ c;obtain⟨b,hbe⟩:=Iu (it c);rw [hbe] at hb ⊢;obtain⟨nc,hnc⟩:=Iu c.toNat;rw [hnc] at hb hc ⊢;have HB:=ns hb;clear hb hbe hnc;go_in;by_cases a1:97≤nc
 ·have d1:decide (97≤nc)=true:=decide_eq_true a1;have i1:(97:Int)≤(nc:Int):=by omega
  by_cases a2:nc≤122
  ·have i2:(nc:Int)≤122:=by omega
   have HE:=ns (show b=true from by rw [HB.out];exact decide_eq_true (Or.inl ⟨a1,a2⟩));go_wp2_with fail;go_ret;rw [HE.out];exact⟨rfl,rfl⟩
  ·have i2:¬(nc:Int)≤122:=by omega
   have i3:(65:Int)≤(nc:Int):=by omega
   have i4:¬(nc:Int)≤90:=by omega
   have i5:(48:Int)≤(nc:Int):=by omega
   have i6:¬(nc:Int)≤57:=by omega
   have HE:=ns (show b=false from by rw [HB.out];exact decide_eq_false (by omega));go_wp2_with fail;go_ret;rw [HE.out];exact⟨rfl,rfl⟩
 ·have i1:¬(97:Int)≤(nc:Int):=by omega
  by_cases a3:65≤nc
  ·have i3:(65:Int)≤(nc:Int):=by omega
   by_cases a4:nc≤90
   ·have i4:(nc:Int)≤90:=by omega
    have HE:=ns (show b=true from by rw [HB.out];exact decide_eq_true (Or.inr (Or.inl ⟨a3,a4⟩)));go_wp2_with fail;go_ret;rw [HE.out];exact⟨rfl,rfl⟩
   ·have i4:¬(nc:Int)≤90:=by omega
    have i5:(48:Int)≤(nc:Int):=by omega
    have i6:¬(nc:Int)≤57:=by omega
    have HE:=ns (show b=false from by rw [HB.out];exact decide_eq_false (by omega));go_wp2_with fail;go_ret;rw [HE.out];exact⟨rfl,rfl⟩
  ·have i3:¬(65:Int)≤(nc:Int):=by omega
   by_cases a5:48≤nc
   ·have i5:(48:Int)≤(nc:Int):=by omega
    by_cases a6:nc≤57
    ·have i6:(nc:Int)≤57:=by omega
     have HE:=ns (show b=true from by rw [HB.out];exact decide_eq_true (Or.inr (Or.inr ⟨a5,a6⟩)));go_wp2_with fail;go_ret;rw [HE.out];exact⟨rfl,rfl⟩
    ·have i6:¬(nc:Int)≤57:=by omega
     have HE:=ns (show b=false from by rw [HB.out];exact decide_eq_false (by omega));go_wp2_with fail;go_ret;rw [HE.out];exact⟨rfl,rfl⟩
   ·have i5:¬(48:Int)≤(nc:Int):=by omega
    have HE:=ns (show b=false from by rw [HB.out];exact decide_eq_false (by omega));go_wp2_with fail;go_ret;rw [HE.out];exact⟨rfl,rfl⟩
theorem sb{c:UInt8}{b:Bool}(h:Hid (it c=b))(w:World):Calls Tryz.prog 296 #[.int .u8 c.toNat] w fun e w'=>e=.returned (.bool b)∧w=w':=by
 rw [←h.out];exact tz c w
theorem tR(l:af)(c:UInt8):(0≤Lib.indexByte l c↔lX c l=true):=by
 unfold lX;rw [List.contains_iff_mem];rcases bM l c with h|⟨i,h⟩
 ·refine⟨fun h2=>by omega,fun h2=> ?_⟩;obtain⟨k,hk⟩:=List.getElem?_of_mem h2;exact absurd hk (Lib.indexByte_none h k)
 ·refine⟨fun _=>List.mem_of_getElem? (Lib.indexByte_some h).1,fun _=>by omega⟩
def yv(some:af)(c:UInt8):Bool:=it c||lX c some
theorem Ez(s t:ByteArray)(hs:s.size≤1000000)(w:World):Calls Tryz.prog 284 #[.string s,.string t] w fun e w'=>e=.returned (.bool ((ab s).all (yv t.data.toList)))∧w=w':=by
 obtain⟨R,hR⟩:=Iu ((ab s).all (yv t.data.toList));rw [hR];have HR:=ns hR;clear hR;go_in;go_wp2_with fail
 go_loop [8] (fun i=>∃ k:Nat,k≤s.size∧i=.int .i64 k∧((ab s).take k).all (yv t.data.toList)=true) (fun i=>s.size-(intOf i).toNat)
 case atStart=>exact⟨0,Nat.zero_le _,rfl,by simp⟩
 case round=>
  obtain⟨k,hk,rfl,hall⟩:=hrel;have HA:=ns hall;clear hall;by_cases hlt:k < s.size
  ·have hkl:k < (ab s).length:=by rw [ae];exact hlt
   have hc2:(ab s)[k]=s[k]:=rfl;have HC:=ns hc2;obtain⟨a,ha⟩:=Iu (it s[k]);obtain⟨b,hb⟩:=Iu (lX s[k] t.data.toList);have HAl:=ns ha;have HIn:=ns hb;have hx:=tR t.data.toList s[k];rw [hb] at hx;obtain⟨x,hxe⟩:=Iu (Lib.indexByte t.data.toList s[k]);rw [hxe] at hx;have HIx:=ns (fun (W:World)=>Tryz.strings_IndexByte t (s[k].toNat:Int) W);have hcc:((s[k].toNat:Int)).toNat.toUInt8=s[k]:=by simp
   rw [hcc,hxe] at HIx;have HStep:=ns (show ((ab s).take (k+1)).all (yv t.data.toList)=(a||b) from by
    rw [List.take_add_one,List.getElem?_eq_getElem hkl,HC.out,List.all_append,HA.out];simp [yv,ha,hb])
   have k1:(0:Int)≤(k:Int):=by omega
   have k2:(k:Int) < (s.size:Int):=by omega
   have HNo:=ns (fun (h:(a||b)=false)=>show R=false from by
    rw [←HR.out,List.all_eq_false];refine⟨s[k],by rw [←HC.out];exact List.getElem_mem hkl,?_⟩;unfold yv;rw [HAl.out,HIn.out,h];decide)
   clear ha hb hxe hcc hc2;go_wp2_with fail;refine(sb HAl _).mono ?_;rintro e w1 ⟨rfl,rfl⟩
   cases a with
   |true=>
    go_wp2_with fail;exact⟨⟨k+1,by omega,by go_num,by rw [HStep.out];rfl⟩,by simp [intOf];omega⟩
   |false=>
    go_wp2_with fail;refine(HIx.out _).mono ?_;rintro e w2 ⟨rfl,rfl⟩
    cases b with
    |true=>
     have hx0:¬x < 0:=by have:=hx.2 rfl;omega
     go_wp2_with fail;exact⟨⟨k+1,by omega,by go_num,by rw [HStep.out];rfl⟩,by simp [intOf];omega⟩
    |false=>
     have hx0:x < 0:=by
      by_cases h:0≤x
      ·exact absurd (hx.1 h) (by decide)
      ·omega
     have HE:=ns (HNo.out rfl);go_wp2_with fail;go_ret;rw [HE.out];exact⟨rfl,rfl⟩
  ·obtain rfl:k=s.size:=by omega
   have HE:=ns (show R=true from by
    rw [←HR.out];have h:=HA.out
    rwa [List.take_of_length_le (by rw [ae];exact Nat.le_refl _)] at h)
   go_wp2_with fail;go_ret;rw [HE.out];exact⟨rfl,rfl⟩
theorem uR:yv [45,46]=dO:=by
 funext c
 have:=cW (fun c=>yv [45,46] c==dO c) (by decide+kernel) c;simpa using this
def kE(h:af):Bool:=decide (1≤h.length)&&(decide (h.length≤100)&&h.all dO)
theorem jj{p:UInt8→Bool}:∀ {l:af} (r:af),l.all p=true→(l++r).takeWhile p=l++r.takeWhile p
 |[],_,_=>rfl
 |c::l,r,h=>by
  rw [List.all_cons,Bool.and_eq_true] at h;rw [List.cons_append,List.takeWhile_cons_of_pos h.1,jj r h.2];rfl
theorem DZ{p:UInt8→Bool}:∀ {l:af},l.all p=false→∃ a c b,l=a++c::b∧a.all p=true∧p c=false
 |[],h=>by cases h
 |c::l,h=>by
  cases hc:p c with
  |false=>exact⟨[],c,l,rfl,rfl,hc⟩
  |true=>
   rw [List.all_cons,hc,Bool.true_and] at h;obtain⟨a,d,b,e,h1,h2⟩:=DZ h;exact⟨c::a,d,b,by rw [e];rfl,by rw [List.all_cons,hc,h1];rfl,h2⟩
theorem qD{l r:af}(hn:∀ c∈l,c≠58)(h:l.all dO=false):bR (l++r)=false:=by
 obtain⟨a,c,b,e,h1,h2⟩:=DZ h;have ht:(l++r).takeWhile dO=a:=by
  rw [e,List.append_assoc,jj _ h1,List.cons_append,List.takeWhile_cons_of_neg (by rw [h2];decide),List.append_nil]
 unfold bR;rw [ht];split
 ·rfl
 ·rw [e,List.append_assoc,List.drop_left,List.cons_append,fZ,if_pos (Or.inl (hn c (by rw [e];simp)))]
theorem xc{s:af}(hn:∀ c∈s,c≠58):bR s=kE s:=by
 cases h:s.all dO with
 |false=>
  have:=qD (r:=[]) hn h;rw [List.append_nil] at this;rw [this];unfold kE;rw [h];simp
 |true=>
  have ht:s.takeWhile dO=s:=by
   have:=jj [] h;rw [List.append_nil] at this;rw [this];simp
  unfold bR kE;rw [ht,h];by_cases h1:s.length < 1∨100 < s.length
  ·rw [if_pos h1];rcases h1 with h1|h1
   ·rw [decide_eq_false (by omega)];rfl
   ·rw [decide_eq_false (p:=s.length≤100) (by omega)];simp
  ·rw [if_neg h1,List.drop_length,decide_eq_true (by omega),decide_eq_true (by omega)];rfl
theorem zB{h p:af}(hn:∀ c∈h,c≠58):bR (h++58::p)=(kE h&&(decide (p.length≤5)&&((eG p).2&&decide ((eG p).1≤65535)))):=by
 cases ha:h.all dO with
 |false=>
  rw [qD hn ha];unfold kE;rw [ha];simp
 |true=>
  have ht:(h++58::p).takeWhile dO=h:=by rw [jj _ ha,List.takeWhile_cons_of_neg (by decide),List.append_nil]
  unfold bR kE;rw [ht,ha];by_cases h1:h.length < 1∨100 < h.length
  ·rw [if_pos h1];rcases h1 with h1|h1
   ·rw [decide_eq_false (by omega)];rfl
   ·rw [decide_eq_false (p:=h.length≤100) (by omega)];simp
  ·rw [if_neg h1,List.drop_left,decide_eq_true (by omega),decide_eq_true (by omega),fZ];by_cases h5:5 < p.length
   ·rw [if_pos (Or.inr h5),decide_eq_false (by omega)];simp
   ·rw [if_neg (by simp;omega),decide_eq_true (p:=p.length≤5) (by omega)];simp
theorem pg{s t:ByteArray}{b:Bool}(h:Hid ((ab s).all (yv t.data.toList)=b))(hs:s.size≤1000000)(w:World):Calls Tryz.prog 284 #[.string s,.string t] w fun e w'=>e=.returned (.bool b)∧w=w':=by
 rw [←h.out];exact Ez s t hs w
theorem yF{s:ByteArray}{a:Int}{b:Bool}(h:Hid (eG (ab s)=(a,b)))(hs:s.size≤1000000)(w:World):Calls Tryz.prog 283 #[.string s] w fun e w'=>e=.returned (.tuple #[.int .i64 a,.bool b])∧Sm No w w':=by
 have:=FH s hs w;have e:ei 10 15 (ab s)=(a,b):=h.out;rw [e] at this;exact this
theorem C4(s:ByteArray)(hs:s.size≤100000)(w:World):
 Calls Tryz.prog 255 #[.string s] w fun e w'=>e=.returned (.bool (bR (ab s)))∧Sm No w w':=by
 obtain⟨R,hR⟩:=Iu (bR (ab s));rw [hR];rcases bM s.data.toList 58 with h2|⟨i,h2⟩
 ·have hn:∀ c∈ab s,c≠58:=fun c hc e=>by
   obtain⟨k,hk⟩:=List.getElem?_of_mem hc;exact Lib.indexByte_none h2 k (by rw [←e];exact hk)
  have hRh:R=kE (ab s):=by rw [←hR];exact xc hn
  obtain⟨b,hb⟩:=Iu ((ab s).all (yv [45,46]));have HB:=ns (show (ab s).all (yv (⟨#[45,46]⟩:ByteArray).data.toList)=b from hb);have HR:=ns (show R=(decide (1≤s.size)&&(decide (s.size≤100)&&b)) from by rw [hRh,←hb,uR];unfold kE;rw [ae]);have H2:=ns h2;clear h2 hn hRh hb hR;go_in;go_wp2_with fail;refine(nF s 58 _ H2).mono ?_;rintro e w1 ⟨rfl,rfl⟩;by_cases g1:1≤s.size
  ·have i1:(1:Int)≤(s.size:Int):=by omega
   by_cases g2:s.size≤100
   ·have i2:(s.size:Int)≤100:=by omega
    go_wp2_with fail;refine(pg HB (by omega) _).mono ?_;rintro e w2 ⟨rfl,rfl⟩;go_wp2_with fail;go_ret;rw [HR.out,decide_eq_true g1,decide_eq_true g2];exact⟨rfl,Sm.refl _ _⟩
   ·have i2:¬(s.size:Int)≤100:=by omega
    go_wp2_with fail;go_ret;rw [HR.out,decide_eq_false g2];exact⟨by simp,Sm.refl _ _⟩
  ·have i1:¬(1:Int)≤(s.size:Int):=by omega
   go_wp2_with fail;go_ret;rw [HR.out,decide_eq_false g1];exact⟨by simp,Sm.refl _ _⟩
 ·obtain⟨hat,hbef⟩:=Lib.indexByte_some h2;have hi:i < s.size:=by
   have:=(List.getElem?_eq_some_iff.1 hat).1;simpa using this
  have hsp:ab s=(ab s).take i++58::(ab s).drop (i+1):=by
   have h3:(ab s).drop i=58::(ab s).drop (i+1):=by
    rw [List.drop_eq_getElem_cons (by rw [ae];exact hi)];congr 1;have h4:(ab s)[i]?=some 58:=hat;rw [List.getElem?_eq_getElem (by rw [ae];exact hi)] at h4;injection h4
   rw [←h3,List.take_append_drop]
  have hn:∀ c∈(ab s).take i,c≠58:=fun c hc e=>by
   obtain⟨k,hk⟩:=List.getElem?_of_mem hc;rw [List.getElem?_take] at hk;split at hk
   ·rename_i hki
    exact hbef k hki (by rw [←e];exact hk)
   ·cases hk
  obtain⟨hb0,hbe⟩:=Iu (s.extract 0 i);obtain⟨pb,hpb⟩:=Iu (s.extract (i+1) s.size);have ht1:ab hb0=(ab s).take i:=by rw [←hbe,aN];simp
  have ht2:ab pb=(ab s).drop (i+1):=by rw [←hpb,bQ]
  have hz1:hb0.size=i:=by rw [←ae,ht1,List.length_take,ae];omega
  have hz2:pb.size≤100000:=by rw [←ae,ht2,List.length_drop,ae];omega
  obtain⟨⟨pn,pok⟩,hnum⟩:∃ x,eG (ab pb)=x:=⟨_,rfl⟩;obtain⟨b,hb⟩:=Iu ((ab hb0).all (yv [45,46]));have HB:=ns (show (ab hb0).all (yv (⟨#[45,46]⟩:ByteArray).data.toList)=b from hb);have HNum:=ns hnum;have HR:=ns (show R=((decide (1≤hb0.size)&&(decide (hb0.size≤100)&&b))&&(decide (pb.size≤5)&&(pok&&decide (pn≤65535)))) from by
   rw [←hR,hsp,zB hn,←ht1,←ht2,hnum,←hb,uR];unfold kE;rw [ae,ae])
  have HI:=ns (BT hi h2);have hz3:hb0.size≤100000:=by omega
  clear hat hbef hsp hn ht1 ht2 hz1 hnum hb hR h2 hi;go_in;go_wp2_with fail;refine(pt s 58 _ i HI.out.1 (by omega) (ns HI.out.2)).mono ?_;rintro e w1 ⟨rfl,nn,hw1⟩;rw [hbe,hpb];have H1:=ns (show Sm No w w1 from by rw [hw1];exact(Sm.refl No w).drewN _);clear hw1 hbe hpb;go_wp2_with fail;refine(yF HNum (by omega) _).mono ?_;rintro e w2 ⟨rfl,hs2⟩;have H2:=ns (H1.out.tt hs2);clear hs2
  cases pok with
  |false=>
   have HE:=ns (show R=false from by rw [HR.out];simp);go_wp2_with fail;go_ret;rw [HE.out];exact⟨rfl,H2.out⟩
  |true=>
   by_cases g5:pb.size≤5
   ·have i5:¬(5:Int) < (pb.size:Int):=by omega
    by_cases g6:pn≤65535
    ·have i6:¬(65535:Int) < pn:=by omega
     have HR2:=ns (show R=(decide (1≤hb0.size)&&(decide (hb0.size≤100)&&b)) from by rw [HR.out,decide_eq_true g5,decide_eq_true g6];simp);clear g5 g6;by_cases g1:1≤hb0.size
     ·have i1:(1:Int)≤(hb0.size:Int):=by omega
      by_cases g2:hb0.size≤100
      ·have i2:(hb0.size:Int)≤100:=by omega
       go_wp2_with fail;refine(pg HB (by omega) _).mono ?_;rintro e w3 ⟨rfl,rfl⟩;go_wp2_with fail;go_ret;rw [HR2.out,decide_eq_true g1,decide_eq_true g2];exact⟨rfl,H2.out⟩
      ·have i2:¬(hb0.size:Int)≤100:=by omega
       go_wp2_with fail;go_ret;rw [HR2.out,decide_eq_false g2];exact⟨by simp,H2.out⟩
     ·have i1:¬(1:Int)≤(hb0.size:Int):=by omega
      go_wp2_with fail;go_ret;rw [HR2.out,decide_eq_false g1];exact⟨by simp,H2.out⟩
    ·have i6:(65535:Int) < pn:=by omega
     have HE:=ns (show R=false from by rw [HR.out,decide_eq_false g6];simp);clear g5 g6;go_wp2_with fail;go_ret;rw [HE.out];exact⟨rfl,H2.out⟩
   ·have i5:(5:Int) < (pb.size:Int):=by omega
    have HE:=ns (show R=false from by rw [HR.out,decide_eq_false g5];simp);clear g5;go_wp2_with fail;go_ret;rw [HE.out];exact⟨rfl,H2.out⟩
def Iw(s:ByteArray)(w:World)(b i:Value)(wr:World):Prop:=
 ∃ (k:Nat) (acc:af) (v:Value),k≤s.size∧v=b∧i=.int .i64 k∧acc.length≤k∧cq s.data.toList=(cq (s.data.toList.drop k)).map (acc++·)∧ay wr w.heap.size v acc∧Sm No w wr
theorem ID(x y:UInt8):ei 16 12 [x,y]=if aG x < 0∨aG y < 0 then (0,false) else (aG x * 16+aG y,true):=by
 have hx:=eF x;have hy:=eF y;rw [yz (by simp)];unfold dH;by_cases h1:aG x < 0
 ·rw [if_pos (Or.inl h1),if_pos (Or.inl h1)]
 ·rw [if_neg (by omega)];unfold dH;by_cases h2:aG y < 0
  ·rw [if_pos (Or.inl h2),if_pos (Or.inr h2)]
  ·rw [if_neg (by omega),if_neg (by omega)];unfold dH;simp
theorem Cw{x y:UInt8}(hx:0≤aG x)(hy:0≤aG y):((kK x y).toNat:Int)=aG x * 16+aG y:=by
 have bx:=eF x;have b2:=eF y;unfold kK;rw [UInt8.toNat_ofNat'];omega
theorem uS{s:ByteArray}{a:Int}{b:Bool}(h:Hid (ei 16 12 (ab s)=(a,b)))(hs:s.size≤1000000)(w:World):Calls Tryz.prog 287 #[.string s] w fun e w'=>e=.returned (.tuple #[.int .i64 a,.bool b])∧Sm No w w':=by
 have:=yB s hs w;rw [h.out] at this;exact this
theorem vn(s:ByteArray)(hs:s.size≤1000000)(w:World):
 Calls Tryz.prog 292 #[.string s] w fun e w'=>e=.returned (uf (cq s.data.toList))∧Sm No w w':=by
 obtain⟨R,hR⟩:=Iu (cq s.data.toList);rw [hR];have HR:=ns hR;clear hR;go_in;go_wp2_with fail
 go_loopw [4,5] (fun b i wr=>Iw s w b i wr) (fun _ i _=>s.size-(intOf i).toNat)
 case atStart=>exact⟨0,[],_,Nat.zero_le _,rfl,rfl,by simp,by rw [List.drop_zero];simp,World.ownsRow_nil _ _ _ 1,Sm.refl _ _⟩
 case round=>
  obtain⟨k,acc,bv,hk,rfl,rfl,hacc,hqr,hO,hsm⟩:=hrel;have HQ:=ns (BT hqr (BT hO hsm));clear hqr hO hsm;by_cases hlt:k < s.size
  ·have hd:=bL s k hlt;obtain⟨c,hc⟩:=Iu (s[k]);have hc256:=c.toNat_lt;rw [hc] at hd;by_cases hc1:c=37
   ·have ht:((c.toNat:Int)==37)=true:=by rw [hc1];rfl
    by_cases hl2:k+2 < s.size
    ·have hd2:=bL s (k+1) (by omega);have hd3:=bL s (k+2) hl2;obtain⟨x,hx⟩:=Iu (s[k+1]'(by omega));obtain⟨y,hy⟩:=Iu (s[k+2]);rw [hx] at hd2;rw [hy] at hd3;obtain⟨hb,hbe⟩:=Iu (s.extract (k+1) (k+3));have htx:ab hb=[x,y]:=by
      rw [←hbe,aN];have e1:(ab s).drop (k+1)=x::y::(ab s).drop (k+3):=by
       have h1:(ab s).drop (k+1)=x::(ab s).drop (k+1+1):=hd2;have h2:(ab s).drop (k+2)=y::(ab s).drop (k+2+1):=hd3;rw [h1,show k+1+1=k+2 by omega,h2]
      rw [List.drop_take,e1,show k+3-(k+1)=2 by omega];rfl
     have hbz:hb.size=2:=by rw [←ae,htx];rfl
     have hst:cq s.data.toList=(if aG x < 0∨aG y < 0 then none else if kK x y=0 then none else (cq (s.data.toList.drop (k+3))).map (kK x y::·)).map (acc++·):=by
      rw [HQ.out.1,hd,hd2,hd3,hc1,nj]
     have HST:=ns hst;have hn2:=ID x y;rw [←htx] at hn2;have k3:(0:Int)≤(k:Int)+1:=by omega
     have k4:¬(s.size:Int)≤(k:Int)+2:=by omega
     have k5:(k:Int)+3≤(s.size:Int):=by omega
     clear hd hd2 hd3 hst htx;by_cases hxy:aG x < 0∨aG y < 0
     ·rw [if_pos hxy] at hn2;have HN:=ns hn2;have HE:=ns (show none=R from by
       have h:=HST.out;rw [if_pos hxy] at h;exact h.symm.trans HR.out)
      clear hn2 hxy;go_wp2_with fail;refine(uS HN (by omega) _).mono ?_;rintro e w2 ⟨rfl,hs2⟩;have H2:=ns (HQ.out.2.2.tt hs2);clear hs2;go_wp2_with fail;go_ret2;exact⟨by rw [←HE.out];rfl,H2.out⟩
     ·rw [if_neg hxy] at hn2;obtain⟨cv,hcv⟩:=Iu (kK x y);have hv:aG x * 16+aG y=(cv.toNat:Int):=by rw [←hcv];exact(Cw (by omega) (by omega)).symm
      rw [hv] at hn2;have HN:=ns hn2;have hcvb:=cv.toNat_lt;have HST2:=ns (show cq s.data.toList=(if cv=0 then none else (cq (s.data.toList.drop (k+3))).map (cv::·)).map (acc++·) from by
       have h:=HST.out;rw [if_neg hxy,hcv] at h;exact h)
      clear hcv hn2 hxy hv;go_wp2_with fail;refine(uS HN (by omega) _).mono ?_;rintro e w2 ⟨rfl,hs2⟩;have H2:=ns (BT (HQ.out.2.2.tt hs2) (aa HQ.out.2.1 hs2 (fun _ _ e=>e)));clear hs2;by_cases hz:cv=0
      ·have HE:=ns (show none=R from by
        have h:=HST2.out;rw [if_pos hz] at h;exact h.symm.trans HR.out)
       have e1:((cv.toNat:Int)==0)=true:=by rw [hz];rfl
       clear hz;go_wp2_with fail;go_ret2;exact⟨by rw [←HE.out];rfl,H2.out.1⟩
      ·have e1:((cv.toNat:Int)==0)=false:=aK (n:=0) (by decide) hz;have HR2:=ns (show cq s.data.toList=(cq (s.data.toList.drop (k+3))).map ((acc++[cv])++·) from by
        have h:=HST2.out;rw [if_neg hz,mY] at h;exact h)
       have hB2:=H2.out.1.size;have hal:acc.length≤1000000:=by omega
       clear hz;go_wp2_with (refine aq rfl _ _ 22 5 rfl Tryz.underlying22 _ 1 1 eE rfl (by decide) (by decide) w.heap.size _ bv _ rfl (World.ownsRow.alloc H2.out.2 _) w2.heap.size #[.int .u8 cv.toNat] rfl (Bk.new w2 _ _) rfl (by simp [Value.oneCell']) hal (by simp;omega) ?_;intro v' w3 hown3 hs3 _;refine RowKit.Hid.out ?_);refine ns ?_;have hO3:ay w3 w.heap.size v' (acc++[cv]):=ay.push hown3 rfl;have hS3:Sm No w w3:=(H2.out.1.alloc (.cells #[.int .u8 cv.toNat] 5)).trans hs3 (fun b hb e=>by
        have:=(World.ownsRow.lt H2.out.2 b e).1;omega)
       have H3:=ns (BT hO3 hS3);clear hO3 hS3 hown3 hs3;go_wp2_with fail;exact⟨⟨k+3,acc++[cv],v',by omega,rfl,by go_num,by simp;omega,HR2.out,H3.out.1,H3.out.2⟩,by simp [intOf];omega⟩
    ·have HE:=ns (show none=R from by
      have h:=HQ.out.1;rw [hd,hc1,iA (by simp;omega)] at h;exact h.symm.trans HR.out)
     have k4:(s.size:Int)≤(k:Int)+2:=by omega
     clear hd hc1;go_wp2_with fail;go_ret2;exact⟨by rw [←HE.out];rfl,HQ.out.2.2⟩
   ·have ht:((c.toNat:Int)==37)=false:=aK (n:=37) (by decide) hc1;have HR2:=ns (show cq s.data.toList=(cq (s.data.toList.drop (k+1))).map ((acc++[c])++·) from by rw [HQ.out.1,hd,jW hc1,mY]);have hal:acc.length≤1000000:=by omega
    have hB2:=HQ.out.2.2.size;clear hd hc1;go_wp2_with (refine aq rfl _ _ 22 5 rfl Tryz.underlying22 _ 1 1 eE rfl (by decide) (by decide) w.heap.size _ bv _ rfl (World.ownsRow.alloc HQ.out.2.1 _) wr.heap.size #[.int .u8 c.toNat] rfl (Bk.new wr _ _) rfl (by simp [Value.oneCell']) hal (by simp;omega) ?_;intro v' w3 hown3 hs3 _;refine RowKit.Hid.out ?_);refine ns ?_;have hO3:ay w3 w.heap.size v' (acc++[c]):=ay.push hown3 rfl;have hS3:Sm No w w3:=(HQ.out.2.2.alloc (.cells #[.int .u8 c.toNat] 5)).trans hs3 (fun b hb e=>by
     have:=(World.ownsRow.lt HQ.out.2.1 b e).1;omega)
    have H3:=ns (BT hO3 hS3);clear hO3 hS3 hown3 hs3;go_wp2_with fail;exact⟨⟨k+1,acc++[c],v',by omega,rfl,by go_num,by simp;omega,HR2.out,H3.out.1,H3.out.2⟩,by simp [intOf];omega⟩
  ·obtain rfl:k=s.size:=by omega
   have HE:=ns (show some acc=R from by
    have h:=HQ.out.1;rw [List.drop_of_length_le (by simp)] at h;have h2:cq s.data.toList=some (acc++[]):=h;rw [List.append_nil] at h2;exact h2.symm.trans HR.out)
   go_wp2_with (refine dc rfl 22 9 _ rfl w.heap.size acc _ rfl HQ.out.2.1 Tryz.underlying22 Tryz.underlying5 Tryz.underlying9 ?_);go_ret2;exact⟨by rw [←HE.out];rfl,HQ.out.2.2⟩
theorem Gu{l:af}(h:Lib.indexByte l 63= -1):l.takeWhile lG=l∧l.drop (l.length+1)=[]:=by
 have ha:l.all lG=true:=by
  rw [List.all_eq_true];intro c hc;obtain⟨k,hk⟩:=List.getElem?_of_mem hc;have:=Lib.indexByte_none h k;unfold lG
  cases h2:c==63 with
  |false=>rfl
  |true=>rw [beq_iff_eq] at h2;subst h2;exact absurd hk this
 have:=jj [] ha;rw [List.append_nil] at this;exact⟨by rw [this];simp,List.drop_of_length_le (by omega)⟩
theorem F9{l:af}{i:Nat}(h:Lib.indexByte l 63=i):i < l.length∧l.takeWhile lG=l.take i∧(l.take i).length=i:=by
 obtain⟨hat,hbef⟩:=Lib.indexByte_some h;have hi:=(List.getElem?_eq_some_iff.1 hat).1;have hsp:l=l.take i++63::l.drop (i+1):=by
  have h3:l.drop i=63::l.drop (i+1):=by
   rw [List.drop_eq_getElem_cons hi];congr 1;rw [List.getElem?_eq_getElem hi] at hat;injection hat
  rw [←h3,List.take_append_drop]
 have ha:(l.take i).all lG=true:=by
  rw [List.all_eq_true];intro c hc;obtain⟨k,hk⟩:=List.getElem?_of_mem hc;rw [List.getElem?_take] at hk;split at hk
  ·rename_i hki
   unfold lG
   cases h2:c==63 with
   |false=>rfl
   |true=>rw [beq_iff_eq] at h2;subst h2;exact absurd hk (hbef k hki)
  ·cases hk
 refine⟨hi,?_,by rw [List.length_take];omega⟩;have e:=jj (63::l.drop (i+1)) ha;rw [←hsp] at e;rw [e,List.takeWhile_cons_of_neg (by decide),List.append_nil]
def rx:Value:=.agg #[.int .i64 0,.string ⟨#[]⟩,.string ⟨#[]⟩,.string ⟨#[]⟩]
def dA(form:Int)(hB:ByteArray)(s:af)(w:World)(e:Ending)(w':World):Prop:=
 Sm No w w'∧match cw s with
  |some (p,q)=>e=.returned (.tuple #[.agg #[.int .i64 form,.string hB,.string ⟨p.toArray⟩,.string ⟨q.toArray⟩],.int .i64 0])
  |none=>e=.returned (.tuple #[rx,.int .i64 8])
theorem dA.no{form:Int}{hB:ByteArray}{s:af}{w w':World}(h:cw s=none)(hs:Sm No w w'):dA form hB s w (.returned (.tuple #[rx,.int .i64 8])) w':=by
 refine⟨hs,?_⟩;rw [h]
theorem dA.yes{form:Int}{hB:ByteArray}{s p q:af}{w w':World}(h:cw s=some (p,q))(hs:Sm No w w'):dA form hB s w (.returned (.tuple #[.agg #[.int .i64 form,.string hB,.string ⟨p.toArray⟩,.string ⟨q.toArray⟩],.int .i64 0])) w':=by
 refine⟨hs,?_⟩;rw [h]
theorem kf(s hB:ByteArray)(form:Int)(hs:s.size≤100000)(w:World)(hg:G0 w):
 Calls Tryz.prog 281 #[.agg #[.int .i64 form,.string hB,.string ⟨#[]⟩,.string ⟨#[]⟩],.string s] w (dA form hB (ab s) w):=by
 obtain⟨R,hR⟩:=Iu (dA form hB (ab s) w);obtain⟨a,ha⟩:=Iu ((ab s).all pu);have HA:=ns (show (ab s).all (yv (⟨#[45,46,95,126,33,36,38,39,40,41,42,43,44,59,61,58,64,47,37,63]⟩:ByteArray).data.toList)=a from ha);have HAl:=ns ha;have HG:=ns hg;have HR:=ns hR;rw [hR];clear ha hg hR;obtain⟨b0,hb0⟩:=Iu w.heap.size;have HB0:=ns hb0;clear hb0;go_in;go_wp2_with fail;rw [HB0.out];obtain⟨w1,hw1⟩:∃ w1,(w.alloc (.cells #[.int .i64 form,.string hB,.string ⟨#[]⟩,.string ⟨#[]⟩] 59)).alloc (.cells #[.int .i64 0,.string ⟨#[]⟩,.string ⟨#[]⟩,.string ⟨#[]⟩] 59)=w1:=⟨_,rfl⟩;have hs1:Sm No w w1:=by rw [←hw1];exact((Sm.refl No w).alloc _).alloc _
 have h01:Bk w1 b0 59 #[.int .i64 form,.string hB,.string ⟨#[]⟩,.string ⟨#[]⟩]:=by rw [←hw1,←HB0.out];exact(Bk.new w _ _).alloc _
 have h11:Bk w1 (b0+1) 59 #[.int .i64 0,.string ⟨#[]⟩,.string ⟨#[]⟩,.string ⟨#[]⟩]:=by rw [←hw1];exact Bk.newAt _ _ _ (by rw [←HB0.out];simp)
 rw [hw1];have H1:=ns (BT hs1 (BT h01 h11));clear hs1 h01 h11 hw1;refine(pg HA (by omega) _).mono ?_;rintro e w1' ⟨rfl,rfl⟩
 cases a with
 |false=>
  have HNo:=ns (show cw (ab s)=none from by unfold cw;rw [if_neg (by rw [HAl.out];decide)]);have z0:=H1.out.2.2.at 0 (v:=.int .i64 0) rfl;have z1:=H1.out.2.2.at 1 (v:=.string ⟨#[]⟩) rfl;have z2:=H1.out.2.2.at 2 (v:=.string ⟨#[]⟩) rfl;have z3:=H1.out.2.2.at 3 (v:=.string ⟨#[]⟩) rfl;have zf:=H1.out.2.2.fz;have zl:=H1.out.2.2.lt;go_wp2_with fail;have hsE:Sm No w _:=H1.out.1.fresh (((((Sm.refl (fun b=>b=b0+1) w1).set1 0 (.int .i64 0)).set1 1 (.string ⟨#[]⟩)).set1 2 (.string ⟨#[]⟩)).set1 3 (.string ⟨#[]⟩)) (fun b e=>by have:=HB0.out;omega);exact bodyPost_ret (v:=.tuple #[.agg #[.int .i64 0,.string ⟨#[]⟩,.string ⟨#[]⟩,.string ⟨#[]⟩],.int .i64 8]) (by simp [results,Tryz.results281,go_sem,z0,z1,z2,z3]) rfl (by rw [←HR.out];exact dA.no HNo.out hsE)
 |true=>
  have HOr:=ns (show cw (ab s)=rW (cq ((ab s).takeWhile lG)) ((ab s).drop (((ab s).takeWhile lG).length+1)) from by unfold cw;rw [if_pos HAl.out]);have hcut:∃ pB qB:ByteArray,∃ f:Bool,ab pB=(ab s).takeWhile lG∧ab qB=(ab s).drop (((ab s).takeWhile lG).length+1)∧pB.size≤100000∧∀ W:World,Calls Tryz.prog 282 #[.string s,.string ⟨#[63]⟩] W fun e W'=>e=.returned (.tuple #[.string pB,.string qB,.bool f])∧Sm No W W':=by
   rcases bM (ab s) 63 with h|⟨i,h⟩
   ·obtain⟨h1,h2⟩:=Gu h;refine⟨s,⟨#[]⟩,false,by rw [h1],by rw [h1,h2];rfl,by omega,fun W=>(nF s 63 W (ns h)).mono ?_⟩;rintro e W' ⟨rfl,rfl⟩;exact⟨rfl,Sm.refl _ _⟩
   ·obtain⟨hi,h1,h2⟩:=F9 h;rw [ae] at hi;refine⟨s.extract 0 i,s.extract (i+1) s.size,true,by rw [aN,h1];simp,by rw [bQ,h1,h2],?_,fun W=>(pt s 63 W i hi (by omega) (ns h)).mono ?_⟩
    ·rw [←ae,aN];simp;have:=ae s;omega
    ·rintro e W' ⟨rfl,nn,rfl⟩;exact⟨rfl,(Sm.refl No W).drewN _⟩
  obtain⟨pB,qB,cf,hp,hq,hpz,hC⟩:=hcut;have HC:=ns hC;have hOr:=HOr.out;rw [←hq,←hp] at hOr;have HOr2:=ns hOr;clear hp hq hC hOr;go_wp2_with fail;refine(HC.out _).mono ?_;rintro e w2 ⟨rfl,hs2⟩;have H2:=ns (BT (H1.out.1.tt hs2) (BT (H1.out.2.1.sm hs2 (fun h=>h)) (H1.out.2.2.sm hs2 (fun h=>h))));clear hs2;obtain⟨D,hD⟩:=Iu (cq pB.data.toList);have hdec:=vn pB (by omega) w2;rw [hD] at hdec;have HDe:=ns hdec;have HDl:=ns (show cw (ab s)=rW D (ab qB) from by rw [HOr2.out];exact congrArg (fun o=>rW o _) hD);have hDz:∀ d,D=some d→d.length≤100000:=fun d hd=>by
   have:=gP _ _ d (Nat.le_refl _) (hD.trans hd);have h3:pB.data.toList.length=pB.size:=by simp
   omega
  have HDz:=ns hDz;clear hD hdec hDz;go_wp2_with fail;refine HDe.out.mono ?_;rintro e w3 ⟨rfl,hs3⟩;have H3:=ns (BT (H2.out.1.tt hs3) (BT (H2.out.2.1.sm hs3 (fun h=>h)) (H2.out.2.2.sm hs3 (fun h=>h))));clear hs3
  cases D with
  |none=>
   have HNo:=ns (show cw (ab s)=none from by rw [HDl.out];rfl);unfold uf;have z0:=H3.out.2.2.at 0 (v:=.int .i64 0) rfl;have z1:=H3.out.2.2.at 1 (v:=.string ⟨#[]⟩) rfl;have z2:=H3.out.2.2.at 2 (v:=.string ⟨#[]⟩) rfl;have z3:=H3.out.2.2.at 3 (v:=.string ⟨#[]⟩) rfl;have zf:=H3.out.2.2.fz;have zl:=H3.out.2.2.lt;go_wp2_with fail;have hsE:Sm No w _:=H3.out.1.fresh (((((Sm.refl (fun b=>b=b0+1) w3).set1 0 (.int .i64 0)).set1 1 (.string ⟨#[]⟩)).set1 2 (.string ⟨#[]⟩)).set1 3 (.string ⟨#[]⟩)) (fun b e=>by have:=HB0.out;omega);exact bodyPost_ret (v:=.tuple #[.agg #[.int .i64 0,.string ⟨#[]⟩,.string ⟨#[]⟩,.string ⟨#[]⟩],.int .i64 8]) (by simp [results,Tryz.results281,go_sem,z0,z1,z2,z3]) rfl (by rw [←HR.out];exact dA.no HNo.out hsE)
  |some d=>
   have hdz:=HDz.out d rfl;obtain⟨dB,hdB⟩:=Iu ((⟨d.toArray⟩:ByteArray));rw [show uf (some d)=.tuple #[.string dB,.int .i64 0] from by rw [←hdB];rfl];have hdt:ab dB=d:=by rw [←hdB];simp [ab]
   have hdz2:dB.size≤100000:=by rw [←ae,hdt];exact hdz
   obtain⟨K,hK⟩:=Iu (bG (ab dB));have hcl:=lK dB (by omega) w3 (HG.out.no H3.out.1);rw [hK] at hcl;have HCl:=ns hcl;have HKl:=ns (show cw (ab s)=B9 K (ab qB) from by rw [HDl.out,←hK,hdt];rfl);clear hdB hdt hdz hcl hK;go_wp2_with fail;refine HCl.out.mono ?_;rintro e w4 ⟨rfl,hs4⟩;have H4:=ns (BT (H3.out.1.tt hs4) (BT (H3.out.2.1.sm hs4 (fun h=>h)) (H3.out.2.2.sm hs4 (fun h=>h))));clear hs4
   cases K with
   |none=>
    have HNo:=ns (show cw (ab s)=none from by rw [HKl.out];rfl);unfold dV;have z0:=H4.out.2.2.at 0 (v:=.int .i64 0) rfl;have z1:=H4.out.2.2.at 1 (v:=.string ⟨#[]⟩) rfl;have z2:=H4.out.2.2.at 2 (v:=.string ⟨#[]⟩) rfl;have z3:=H4.out.2.2.at 3 (v:=.string ⟨#[]⟩) rfl;have zf:=H4.out.2.2.fz;have zl:=H4.out.2.2.lt;go_wp2_with fail;have hsE:Sm No w _:=H4.out.1.fresh (((((Sm.refl (fun b=>b=b0+1) w4).set1 0 (.int .i64 0)).set1 1 (.string ⟨#[]⟩)).set1 2 (.string ⟨#[]⟩)).set1 3 (.string ⟨#[]⟩)) (fun b e=>by have:=HB0.out;omega);exact bodyPost_ret (v:=.tuple #[.agg #[.int .i64 0,.string ⟨#[]⟩,.string ⟨#[]⟩,.string ⟨#[]⟩],.int .i64 8]) (by simp [results,Tryz.results281,go_sem,z0,z1,z2,z3]) rfl (by rw [←HR.out];exact dA.no HNo.out hsE)
   |some r=>
    rw [show dV (some r)=.tuple #[.string ⟨r.toArray⟩,.bool true] from rfl];have HYes:=ns (show cw (ab s)=some (r,ab qB) from by rw [HKl.out];rfl);have y0:=H4.out.2.1.at 0 (v:=.int .i64 form) rfl;have y1:=H4.out.2.1.at 1 (v:=.string hB) rfl;have y2:=H4.out.2.1.at 2 (v:=.string ⟨#[]⟩) rfl;have y3:=H4.out.2.1.at 3 (v:=.string ⟨#[]⟩) rfl;have yf:=H4.out.2.1.fz;have yl:=H4.out.2.1.lt;have z0:=H4.out.2.2.at 0 (v:=.int .i64 0) rfl;have z1:=H4.out.2.2.at 1 (v:=.string ⟨#[]⟩) rfl;have z2:=H4.out.2.2.at 2 (v:=.string ⟨#[]⟩) rfl;have z3:=H4.out.2.2.at 3 (v:=.string ⟨#[]⟩) rfl;have zf:=H4.out.2.2.fz;have zl:=H4.out.2.2.lt;go_wp2_with fail;have hsE:Sm No w ((((((w4.setCell ⟨b0,2,none⟩ (.string ⟨r.toArray⟩)).setCell ⟨b0,3,none⟩ (.string qB)).setCell ⟨b0+1,0,none⟩ (.int .i64 form)).setCell ⟨b0+1,1,none⟩ (.string hB)).setCell ⟨b0+1,2,none⟩ (.string ⟨r.toArray⟩)).setCell ⟨b0+1,3,none⟩ (.string qB)):=
     H4.out.1.fresh (((((((Sm.refl (fun b=>b=b0∨b=b0+1) w4).setS (Or.inl rfl) 2 (.string ⟨r.toArray⟩)).setS (Or.inl rfl) 3 (.string qB)).setS (Or.inr rfl) 0 (.int .i64 form)).setS (Or.inr rfl) 1 (.string hB)).setS (Or.inr rfl) 2 (.string ⟨r.toArray⟩)).setS (Or.inr rfl) 3 (.string qB)) (fun b e=>by have:=HB0.out;omega)
    exact bodyPost_ret (v:=.tuple #[.agg #[.int .i64 form,.string hB,.string ⟨r.toArray⟩,.string qB],.int .i64 0]) (by simp [results,Tryz.results281,go_sem,z0,z1,z2,z3]) rfl (by
     rw [←HR.out];have h:=dA.yes (form:=form) (hB:=hB) HYes.out hsE;rw [ec] at h;exact h)
end Go.Proofs.YtcflkcbogofgbaaGreatDoor
