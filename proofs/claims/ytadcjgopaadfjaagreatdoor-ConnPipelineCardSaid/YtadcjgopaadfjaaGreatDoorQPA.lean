import Derived.Test.YtadcjgopaadfjaaGreatDoorQP
import Derived.Test.YtadcjgopaadfjaaGreatDoorQShelf
import Derived.Lib.Atoi
import Derived.Lib.SmallJoins
import Derived.Test.YtadcjgopaadfjaaGreatDoorQO
import Derived.Test.YtadcjgopaadfjaaGreatDoorQF
set_option maxHeartbeats 16000000
set_option maxRecDepth 100000
namespace Go.Proofs.YtadcjgopaadfjaaGreatDoor
open Go.RowKit Go.Proofs
theorem yG{p:UInt8→Bool}{l:ah}:l.dropWhile p=[]↔l.all p=true:=by
 induction l with
 |nil=>simp
 |cons c l ih=>
  cases h:p c with
  |true=>rw [List.dropWhile_cons_of_pos h,ih,List.all_cons,h,Bool.true_and]
  |false=>rw [List.dropWhile_cons_of_neg (by simp [h]),List.all_cons,h,Bool.false_and];simp
theorem yP{p:UInt8→Bool}{l:ah}{c:UInt8}(h:c∈l)(hc:p c=false):c∈l.dropWhile p:=by
 induction l with
 |nil=>cases h
 |cons d l ih=>
  cases hd:p d with
  |true=>
   rw [List.dropWhile_cons_of_pos hd];rcases List.mem_cons.1 h with rfl|h
   ·rw [hd] at hc;cases hc
   ·exact ih h
  |false=>rw [List.dropWhile_cons_of_neg (by simp [hd])];exact h
theorem yH(l cs:ah):Lib.trimS l cs=[]↔l.all (fun c=>cs.contains c)=true:=by
 unfold Lib.trimS Lib.trimLeftS Lib.trimRightS;rw [yG];constructor
 ·intro h;rw [List.all_eq_true];intro c hc
  cases hp:cs.contains c with
  |true=>rfl
  |false=>
   have h1:c∈(l.reverse.dropWhile fun c=>cs.contains c).reverse:=List.mem_reverse.2 (yP (List.mem_reverse.2 hc) hp);have:=List.all_eq_true.1 h c h1;rw [hp] at this;exact this
 ·intro h;rw [List.all_eq_true] at h ⊢;intro c hc;exact h c (List.mem_reverse.1 ((List.dropWhile_sublist _).subset (List.mem_reverse.1 hc)))
def ri:ByteArray:=⟨#[48,49,50,51,52,53,54,55,56,57]⟩
def ro:ByteArray:=⟨#[48,49,50,51,52,53,54,55,56,57,97,98,99,100,101,102,65,66,67,68,69,70]⟩
theorem BO(c:UInt8):ri.data.toList.contains c=decide (0≤aJ c∧aJ c < 10):=by
 have:=cJ (fun c=>ri.data.toList.contains c==decide (0≤aJ c∧aJ c < 10)) (by decide+kernel) c;simpa using this
theorem BU(c:UInt8):ro.data.toList.contains c=decide (0≤aJ c∧aJ c < 16):=by
 have:=cJ (fun c=>ro.data.toList.contains c==decide (0≤aJ c∧aJ c < 16)) (by decide+kernel) c;simpa using this
theorem jW{b:Int}:∀ (l:ah) (n:Int),(l.all fun c=>decide (0≤aJ c∧aJ c < b))=(dK b l n).isSome
 |[],_=>rfl
 |c::l,n=>by
  rw [List.all_cons];unfold dK;by_cases h:aJ c < 0∨b≤aJ c
  ·rw [if_pos h,decide_eq_false (by omega)];rfl
  ·rw [if_neg h,decide_eq_true (by omega),Bool.true_and];exact jW l _
theorem sP:∀ (l:ah) (n:Nat),(∀ c∈l,0≤aJ c∧aJ c < 10)→dK 10 l n=(Lib.decFrom n l).map fun (m:Nat)=>(m:Int)
 |[],_,_=>rfl
 |c::l,n,h=>by
  have hc:=h c List.mem_cons_self;have h1:48≤c.toNat∧c.toNat≤57∧aJ c=(c.toNat:Int)-48:=by
   have:=cJ (fun c=>decide (0≤aJ c∧aJ c < 10→48≤c.toNat∧c.toNat≤57∧aJ c=(c.toNat:Int)-48)) (by decide+kernel) c;exact of_decide_eq_true this hc
  unfold dK Lib.decFrom Lib.digitVal;rw [if_neg (by omega),if_pos ⟨h1.1,h1.2.1⟩];have e:(n:Int) * 10+aJ c=((n * 10+(c.toNat-48):Nat):Int):=by omega
  rw [e];exact sP l _ (fun d hd=>h d (List.mem_cons_of_mem _ hd))
theorem Dd{l:ah}{n:Int}(h0:l≠[])(h:dK 10 l 0=some n):Lib.atoi l=some n:=by
 have ha:=jW (b:=10) l 0;rw [h] at ha;have ha:∀ c∈l,0≤aJ c∧aJ c < 10:=fun c hc=>by simpa using List.all_eq_true.1 ha c hc
 have hd:=sP l 0 ha
 cases l with
 |nil=>exact absurd rfl h0
 |cons c r=>
  have hc:=ha c List.mem_cons_self;have h1:c≠45∧c≠43:=by
   have:=cJ (fun c=>decide (0≤aJ c∧aJ c < 10→c≠45∧c≠43)) (by decide+kernel) c;exact of_decide_eq_true this hc
  unfold Lib.atoi;dsimp only;rw [if_neg (by simpa using h1.1),if_neg (by simpa using h1.2)];unfold Lib.decNat;rw [if_neg (by simp),←hd];exact h
theorem uA(s of:ByteArray)(m:Nat)(hs:s.size≤1000000)(ho:of.size≤1000)(ha:of.data.toList.all (fun b=>decide (b.toNat < 128))=true)(w:World):
 Calls Tryz.prog 257 #[.string s,.string of,.int .i64 m] w fun e w'=>e=.returned (.bool (decide (1≤s.size)&&(decide (s.size≤m)&&s.data.toList.all fun c=>of.data.toList.contains c)))∧Sm No w w':=by
 have hcon:=fun (w:World)=>Any.strings_Trim_laid Tryz.lays160 (by kernel_rfl) s of w (by omega) (by omega) (ascii_of_all ha);obtain⟨r,hr⟩:=ai ((⟨(Lib.trimS s.data.toList of.data.toList).toArray⟩:ByteArray));have hrl:r.data.toList=[]↔(s.data.toList.all fun c=>of.data.toList.contains c)=true:=by rw [←hr];exact yH _ _
 obtain⟨al,hal⟩:∃ al,(s.data.toList.all fun c=>of.data.toList.contains c)=al:=⟨_,rfl⟩;rw [hal] at hrl ⊢
 change ∀ w,Calls Tryz.prog 117 _ _ (fun e w'=>e=.returned (.string ⟨(Lib.trimS s.data.toList of.data.toList).toArray⟩)∧Below w.heap.size w w') at hcon
 rw [hr] at hcon;have HCon:=aa hcon;have HRL:=aa hrl;clear hcon hrl hr hal ha;go_in;by_cases h0:s.size=0
 ·have e1:s.toList=[]:=by rw [ByteArray.toList_eq];exact List.eq_nil_of_length_eq_zero (by simpa using h0)
  have d1:decide (1≤s.size)=false:=decide_eq_false (by omega);rw [d1,Bool.false_and];go_wp2_with fail;go_ret;exact⟨rfl,Sm.refl _ _⟩
 ·have d1:decide (1≤s.size)=true:=decide_eq_true (by omega);have e1:¬s.toList=[]:=fun e=>by
   rw [ByteArray.toList_eq] at e;exact h0 (by have:=congrArg List.length e;simpa using this)
  have e2:s.toList.isEmpty=false:=by cases h:s.toList with
   |nil=>exact absurd h e1
   |cons=>rfl
  rw [d1,Bool.true_and];by_cases hle:s.size≤m
  ·have d2:decide (s.size≤m)=true:=decide_eq_true hle;have d3:decide ((s.size:Int)≤(m:Int))=true:=decide_eq_true (by omega);have i3:(s.size:Int)≤(m:Int):=by omega
   rw [d2,Bool.true_and];go_wp2_with fail;refine(HCon.out _).mono ?_;rintro e w1 ⟨rfl,hB⟩;have HB:=aa hB;clear hB
   cases al with
   |true=>
    have e3:r.toList=[]:=by rw [ByteArray.toList_eq];exact HRL.out.2 rfl
    go_wp2_with fail;go_ret;exact⟨by simp,Sm.of_below HB.out No⟩
   |false=>
    have e3:¬r.toList=[]:=fun e=>by rw [ByteArray.toList_eq] at e;exact absurd (HRL.out.1 e) (by decide)
    go_wp2_with fail;go_ret;exact⟨by simp [e3],Sm.of_below HB.out No⟩
  ·have d2:decide (s.size≤m)=false:=decide_eq_false hle;have d3:decide ((s.size:Int)≤(m:Int))=false:=decide_eq_false (by omega);have i3:¬(s.size:Int)≤(m:Int):=by omega
   rw [d2,Bool.false_and];go_wp2_with fail;go_ret;exact⟨rfl,Sm.refl _ _⟩
theorem xq{b:Int}{m:Nat}{l:ah}(h:¬(l.length < 1∨m < l.length)):fL b m l=match dK b l 0 with
 |some n=>(n,true)
 |none=>(0,false):=by
 unfold fL;rw [if_neg h]
 cases dK b l 0<;>rfl
theorem mC{s of:ByteArray}{m:Nat}{b:Bool}(hb:Hid ((decide (1≤s.size)&&(decide (s.size≤m)&&s.data.toList.all fun c=>of.data.toList.contains c))=b))(hs:s.size≤1000000)(ho:of.size≤1000)(ha:of.data.toList.all (fun b=>decide (b.toNat < 128))=true)(w:World):
 Calls Tryz.prog 257 #[.string s,.string of,.int .i64 m] w fun e w'=>e=.returned (.bool b)∧Sm No w w':=by
 rw [←hb.out];exact uA s of m hs ho ha w
theorem mM{b:Int}{m:Nat}{s of:ByteArray}(h:∀ c,of.data.toList.contains c=decide (0≤aJ c∧aJ c < b)):
 ((decide (1≤s.size)&&(decide (s.size≤m)&&s.data.toList.all fun c=>of.data.toList.contains c))=false∧fL b m (af s)=(0,false))∨
 ((decide (1≤s.size)&&(decide (s.size≤m)&&s.data.toList.all fun c=>of.data.toList.contains c))=true∧∃ n,dK b (af s) 0=some n∧fL b m (af s)=(n,true)∧1≤s.size∧s.size≤m):=by
 have e:(s.data.toList.all fun c=>of.data.toList.contains c)=(dK b (af s) 0).isSome:=by
  rw [←jW (b:=b) (af s) 0];unfold af;congr 1
  funext c
  exact h c
 have hl:(af s).length=s.size:=ag s;rw [e];by_cases h1:1≤s.size
 ·by_cases h2:s.size≤m
  ·rw [decide_eq_true h1,decide_eq_true h2,xq (by omega)]
   cases hn:dK b (af s) 0 with
   |none=>exact Or.inl ⟨rfl,rfl⟩
   |some n=>exact Or.inr ⟨rfl,n,rfl,rfl,h1,h2⟩
  ·rw [decide_eq_false h2];refine Or.inl ⟨by simp,?_⟩;unfold fL;rw [if_pos (by omega)]
 ·rw [decide_eq_false h1];refine Or.inl ⟨by simp,?_⟩;unfold fL;rw [if_pos (by omega)]
theorem EG(s:ByteArray)(hs:s.size≤1000000)(w:World):
 Calls Tryz.prog 248 #[.string s] w fun e w'=>e=.returned (.tuple #[.int .i64 (fL 10 15 (af s)).1,.bool (fL 10 15 (af s)).2])∧Sm No w w':=by
 have hd:=mM (b:=10) (m:=15) (s:=s) BO;obtain⟨R,hR⟩:=ai (fL 10 15 (af s));rw [hR] at hd ⊢;obtain⟨b,hb⟩:∃ b,(decide (1≤s.size)&&(decide (s.size≤15)&&s.data.toList.all fun c=>ri.data.toList.contains c))=b:=⟨_,rfl⟩;rw [hb] at hd;have HB:=aa hb;have HD:=aa hd;clear hb hd hR;have HDg:=aa (mC (of:=ri) (m:=15) HB hs (by decide) (by decide+kernel) w);unfold ri at HDg;go_in;go_wp2_with fail;refine HDg.out.mono ?_;rintro e w1 ⟨rfl,hs1⟩;have H1:=aa hs1;clear hs1
 cases b with
 |false=>
  have HR:=aa (show R=(0,false) from by
   rcases HD.out with h|h
   ·exact h.2
   ·exact absurd h.1 (by decide))
  go_wp2_with fail;go_ret2;rw [HR.out];exact⟨rfl,H1.out⟩
 |true=>
  obtain⟨n,hn,hRn,h1,h2⟩:=(HD.out.resolve_left (fun h=>absurd h.1 (by decide))).2;have HA:=aa (Any.strconv_Atoi Tryz.lays172 s n (by omega) (Dd (fun e=>by
   have h3:(af s).length=0:=by
    have e:af s=[]:=e;rw [e];rfl
   rw [ag] at h3;omega) hn) w1)
  have HRn:=aa hRn;clear hn hRn h1 h2;go_wp2_with fail;refine HA.out.mono ?_;rintro e w2 ⟨rfl,t,hw2⟩;have H2:=aa (show Sm No w w2 from by
   rw [hw2];exact H1.out.tt (Sm.of_below (Joins.below_bytesWorld _ _ _ _ (Nat.le_refl _)) No))
  clear hw2;go_wp2_with fail;go_ret2;rw [HRn.out];exact⟨rfl,H2.out⟩
def G9(s:ByteArray)(w1:World)(uv nv iv:Value)(wr:World):Prop:=∃ (k:Nat) (a:Int),k≤s.size∧uv=.bool false∧nv=.int .u64 a∧iv=.int .i64 k∧0≤a∧a < 16 ^ k∧dK 16 (af s) 0=dK 16 ((af s).drop k) a∧wr=w1
theorem B5(c:UInt8):¬(48≤c.toNat∧c.toNat≤57)→0≤aJ c→bits .or .u8 (c.toNat:Int) 32=aJ c+87∧10≤aJ c∧aJ c≤15:=by
 have:=cJ (fun c=>decide (¬(48≤c.toNat∧c.toNat≤57)→0≤aJ c→bits .or .u8 (c.toNat:Int) 32=aJ c+87∧10≤aJ c∧aJ c≤15)) (by decide+kernel) c;exact of_decide_eq_true this
theorem Bg(c:UInt8):(48≤c.toNat∧c.toNat≤57)→aJ c=(c.toNat:Int)-48:=by
 intro h;unfold aJ;rw [if_pos h]
theorem yE(c:UInt8):0≤aJ c→c.toNat≠95:=by
 have:=cJ (fun c=>decide (0≤aJ c→c.toNat≠95)) (by decide+kernel) c;exact of_decide_eq_true this
theorem Gd{k:Nat}(h:k≤11):(16:Int) ^ k≤17592186044416:=by
 have:(16:Int) ^ k≤16 ^ 11:=by exact_mod_cast Nat.pow_le_pow_right (by decide) h
 have e:(16:Int) ^ 11=17592186044416:=by decide
 omega
theorem tx(s:ByteArray)(n:Int)(h1:1≤s.size)(h2:s.size≤12)(hn:dK 16 (af s) 0=some n)(w:World):
 Calls Tryz.prog 272 #[.string s,.int .i64 16,.int .i64 64] w fun e w'=>e=.returned (.tuple #[.int .u64 n,.nilIface])∧Sm No w w':=by
 have HN:=aa hn;clear hn;have e1:¬s.toList=[]:=fun e=>by
  rw [ByteArray.toList_eq] at e;have:=congrArg List.length e;have h3:s.size=0:=by simpa using this
  omega
 have e2:s.toList.isEmpty=false:=by cases h:s.toList with
  |nil=>exact absurd h e1
  |cons=>rfl
 have hmv:IntKind.u64.wrap (IntKind.u64.wrap 18446744073709551616-1)=18446744073709551615:=by
  rw [IntKind.wrap_u64,IntKind.wrap_u64];decide
 have hcv:=Lib.run_convert_string_bytes (P:=Tryz.prog) w 9 34 5 s (u:=.string) Tryz.underlying9 Tryz.underlying34 Tryz.underlying5;have hB:∀ j,(hj:j < s.size)→(Lib.bytesWorld w 5 s).cell? ⟨w.heap.size,j,none⟩=some (.int .u8 (s[j]).toNat):=fun j hj=>by
  rw [Lib.bytesWorld_cell w 5 s j hj];congr 3;have h3:s.data.toList.getD j 0=s[j]:=by
   rw [List.getD_eq_getElem?_getD,List.getElem?_eq_getElem (by simp;exact hj)];rfl
  rw [h3]
 have hsm:Sm No w (Lib.bytesWorld w 5 s):=Sm.of_below (Joins.below_bytesWorld _ _ _ _ (Nat.le_refl _)) No;obtain⟨w1,hw1⟩:∃ w1,w1=Lib.bytesWorld w 5 s:=⟨_,rfl⟩;rw [←hw1] at hcv hB hsm;have HB:=aa hB;have H1:=aa hsm;clear hB hsm hw1;go_in;go_wp2_with fail;clear hcv hmv
 go_loopw [12,13,101] (fun uv nv iv wr=>G9 s w1 uv nv iv wr) (fun _ _ iv _=>s.size-(intOf iv).toNat)
 case atStart=>exact⟨0,0,Nat.zero_le _,rfl,rfl,rfl,Int.le_refl _,by decide,rfl,rfl⟩
 case round=>
  obtain⟨k,a,hk,rfl,rfl,rfl,ha0,ha1,hf,rfl⟩:=hrel;by_cases hlt:k < s.size
  ·have hst:=yn (b:=16) (a:=a) hlt;have r1:=HB.out k hlt;obtain⟨c,hc⟩:=ai (s[k]);rw [hc] at hst r1;have hd:0≤aJ c∧aJ c < 16:=by
    by_cases hb:aJ c < 0∨16≤aJ c
    ·rw [hst,if_pos hb,HN.out] at hf;cases hf
    ·omega
   rw [if_neg (by omega)] at hst;have hp:=Gd (k:=k) (by omega);have HF:=aa (hf.trans hst);have hu:=yE c hd.1;have hl:=B5 c;have hdb:=Bg c;have hct:=c.toNat_lt;have HP:=aa (show a * 16+aJ c < 16 ^ (k+1) from by rw [Int.pow_succ];omega);obtain⟨d,hde⟩:=ai (aJ c);rw [hde] at hd hl hdb HF HP;obtain⟨nc,hnc⟩:=ai c.toNat;rw [hnc] at r1 hu hl hdb hct;have k1:(0:Int)≤(k:Int):=by omega
   have k2:(k:Int) < (s.size:Int):=by omega
   have i0:¬(nc:Int)=95:=by omega
   have i1:((nc:Int)==95)=false:=by rw [beq_eq_false_iff_ne];exact i0
   clear hst hf hde hnc hc;by_cases hdig:48≤nc∧nc≤57
   ·have hdd:=hdb hdig;have j1:(48:Int)≤(nc:Int):=by omega
    have j2:(nc:Int)≤57:=by omega
    clear hl hdb;go_wp2_with fail;rw [show (nc:Int)-48=d from by omega];exact⟨⟨k+1,a * 16+d,by omega,rfl,rfl,by go_num,by omega,HP.out,HF.out,rfl⟩,by simp [intOf];omega⟩
   ·obtain⟨l1,l2,l3⟩:=hl hdig hd.1;have HLow:=aa (fun (W:World)=>Tryz.internal_strconv_lower (nc:Int) W);rw [l1] at HLow;have jd:(decide ((48:Int)≤(nc:Int))&&decide ((nc:Int)≤57))=false:=by
     rw [Bool.and_eq_false_iff];by_cases h48:(48:Int)≤(nc:Int)
     ·exact Or.inr (decide_eq_false (by omega))
     ·exact Or.inl (decide_eq_false h48)
    clear hl hdb l1;by_cases h48:(48:Int)≤(nc:Int)
    ·have j2:¬(nc:Int)≤57:=by omega
     clear jd;go_wp2_with (first|(go_at_call 275;refine(HLow.out _).mono ?_;rintro e w2 ⟨rfl,rfl⟩));rw [show d+87-97+10=d from by omega];exact⟨⟨k+1,a * 16+d,by omega,rfl,rfl,by go_num,by omega,HP.out,HF.out,rfl⟩,by simp [intOf];omega⟩
    ·clear jd;go_wp2_with (first|(go_at_call 275;refine(HLow.out _).mono ?_;rintro e w2 ⟨rfl,rfl⟩));rw [show d+87-97+10=d from by omega];exact⟨⟨k+1,a * 16+d,by omega,rfl,rfl,by go_num,by omega,HP.out,HF.out,rfl⟩,by simp [intOf];omega⟩
  ·obtain rfl:k=s.size:=by omega
   have hna:n=a:=by
    have h3:=HN.out;rw [hf,List.drop_of_length_le (by rw [ag];exact Nat.le_refl _)] at h3;injection h3 with h3;exact h3.symm
   subst hna;clear hf;go_wp2_with fail;go_ret2;exact⟨rfl,H1.out⟩
theorem zi{s:ByteArray}{n:Int}(h2:s.size≤12)(hn:dK 16 (af s) 0=some n):0≤n∧n < 281474976710656:=by
 obtain⟨h3,h4⟩:=mm (Or.inr rfl) (k:=0) hn (Int.le_refl _) (by decide);refine⟨h3,?_⟩;have h5:(16:Int) ^ (0+(af s).length)≤16 ^ 12:=by exact_mod_cast Nat.pow_le_pow_right (by decide) (by rw [ag];omega)
 have h6:(16:Int) ^ 12=281474976710656:=by decide
 omega
theorem uK(s:ByteArray)(n:Int)(h1:1≤s.size)(h2:s.size≤12)(hn:dK 16 (af s) 0=some n)(w:World):
 Calls Tryz.prog 265 #[.string s,.int .i64 16,.int .i64 64] w fun e w'=>e=.returned (.tuple #[.int .i64 n,.nilIface])∧Sm No w w':=by
 obtain⟨n0,n1⟩:=zi h2 hn;have HU:=aa (tx s n h1 h2 hn);have e1:¬s.toList=[]:=fun e=>by
  rw [ByteArray.toList_eq] at e;have:=congrArg List.length e;have h3:s.size=0:=by simpa using this
  omega
 have e2:s.toList.isEmpty=false:=by cases h:s.toList with
  |nil=>exact absurd h e1
  |cons=>rfl
 obtain⟨c,m,hm⟩:∃ c m,af s=c::m:=by
  cases ht:af s with
  |nil=>have h3:=ag s;rw [ht] at h3;simp at h3;omega
  |cons c m=>exact⟨c,m,rfl⟩
 have hc:0≤aJ c:=by
  rw [hm] at hn;unfold dK at hn;split at hn
  ·cases hn
  ·rename_i h;omega
 have hcs:s[0]'(by omega)=c:=by
  have h3:(af s)[0]?=some c:=by rw [hm];rfl
  unfold af at h3;rw [List.getElem?_eq_getElem (by simp;omega)] at h3;injection h3 with h3
 have hp:c.toNat≠43∧c.toNat≠45:=by
  have:=cJ (fun c=>decide (0≤aJ c→c.toNat≠43∧c.toNat≠45)) (by decide+kernel) c;exact of_decide_eq_true this hc
 have i1:¬(c.toNat:Int)=43:=by omega
 have i2:¬(c.toNat:Int)=45:=by omega
 have i3:((c.toNat:Int)==43)=false:=by rw [beq_eq_false_iff_ne];exact i1
 have i4:((c.toNat:Int)==45)=false:=by rw [beq_eq_false_iff_ne];exact i2
 clear hn hm hc hp;go_in;go_wp2_with fail;refine(HU.out _).mono ?_;rintro e w1 ⟨rfl,hs1⟩;have H1:=aa hs1;clear hs1;go_wp2_with fail;go_ret2;exact⟨rfl,H1.out⟩
theorem pJ(s:ByteArray)(n:Int)(h1:1≤s.size)(h2:s.size≤12)(hn:dK 16 (af s) 0=some n)(w:World):
 Calls Tryz.prog 260 #[.string s,.int .i64 16,.int .i64 64] w fun e w'=>e=.returned (.tuple #[.int .i64 n,.nilIface])∧Sm No w w':=by
 have HI:=aa (uK s n h1 h2 hn);clear hn;go_in;go_wp2_with fail;refine(HI.out _).mono ?_;rintro e w1 ⟨rfl,hs1⟩;have H1:=aa hs1;clear hs1;go_wp2_with fail;go_ret2;exact⟨rfl,H1.out⟩
theorem xv(s:ByteArray)(hs:s.size≤1000000)(w:World):
 Calls Tryz.prog 252 #[.string s] w fun e w'=>e=.returned (.tuple #[.int .i64 (fL 16 12 (af s)).1,.bool (fL 16 12 (af s)).2])∧Sm No w w':=by
 have hd:=mM (b:=16) (m:=12) (s:=s) BU;obtain⟨R,hR⟩:=ai (fL 16 12 (af s));rw [hR] at hd ⊢;obtain⟨b,hb⟩:∃ b,(decide (1≤s.size)&&(decide (s.size≤12)&&s.data.toList.all fun c=>ro.data.toList.contains c))=b:=⟨_,rfl⟩;rw [hb] at hd;have HB:=aa hb;have HD:=aa hd;clear hb hd hR;have HDg:=aa (mC (of:=ro) (m:=12) HB hs (by decide) (by decide+kernel) w);unfold ro at HDg;go_in;go_wp2_with fail;refine HDg.out.mono ?_;rintro e w1 ⟨rfl,hs1⟩;have H1:=aa hs1;clear hs1
 cases b with
 |false=>
  have HR:=aa (show R=(0,false) from by
   rcases HD.out with h|h
   ·exact h.2
   ·exact absurd h.1 (by decide))
  go_wp2_with fail;go_ret2;rw [HR.out];exact⟨rfl,H1.out⟩
 |true=>
  obtain⟨n,hn,hRn,h1,h2⟩:=(HD.out.resolve_left (fun h=>absurd h.1 (by decide))).2;have HI:=aa (fun W=>pJ s n h1 h2 hn W);have HRn:=aa hRn;clear hn hRn h1 h2;go_wp2_with fail;refine(HI.out _).mono ?_;rintro e w2 ⟨rfl,hs2⟩;have H2:=aa (H1.out.tt hs2);clear hs2;go_wp2_with fail;go_ret2;rw [HRn.out];exact⟨rfl,H2.out⟩
theorem DB(c:UInt8):jQ c=decide ((97≤c.toNat∧c.toNat≤122)∨(65≤c.toNat∧c.toNat≤90)∨(48≤c.toNat∧c.toNat≤57)):=by
 have:=cJ (fun c=>jQ c==decide ((97≤c.toNat∧c.toNat≤122)∨(65≤c.toNat∧c.toNat≤90)∨(48≤c.toNat∧c.toNat≤57))) (by decide+kernel) c;simpa using this
theorem rF(c:UInt8)(w:World):Calls Tryz.prog 259 #[.int .u8 c.toNat] w fun e w'=>e=.returned (.bool (jQ c))∧w=w':=by
 have hc:=c.toNat_lt;have hb:=DB c;obtain⟨b,hbe⟩:=ai (jQ c);rw [hbe] at hb ⊢;obtain⟨nc,hnc⟩:=ai c.toNat;rw [hnc] at hb hc ⊢;have HB:=aa hb;clear hb hbe hnc;go_in;by_cases a1:97≤nc
 ·have d1:decide (97≤nc)=true:=decide_eq_true a1;have i1:(97:Int)≤(nc:Int):=by omega
  by_cases a2:nc≤122
  ·have i2:(nc:Int)≤122:=by omega
   have HE:=aa (show b=true from by rw [HB.out];exact decide_eq_true (Or.inl ⟨a1,a2⟩));go_wp2_with fail;go_ret;rw [HE.out];exact⟨rfl,rfl⟩
  ·have i2:¬(nc:Int)≤122:=by omega
   have i3:(65:Int)≤(nc:Int):=by omega
   have i4:¬(nc:Int)≤90:=by omega
   have i5:(48:Int)≤(nc:Int):=by omega
   have i6:¬(nc:Int)≤57:=by omega
   have HE:=aa (show b=false from by rw [HB.out];exact decide_eq_false (by omega));go_wp2_with fail;go_ret;rw [HE.out];exact⟨rfl,rfl⟩
 ·have i1:¬(97:Int)≤(nc:Int):=by omega
  by_cases a3:65≤nc
  ·have i3:(65:Int)≤(nc:Int):=by omega
   by_cases a4:nc≤90
   ·have i4:(nc:Int)≤90:=by omega
    have HE:=aa (show b=true from by rw [HB.out];exact decide_eq_true (Or.inr (Or.inl ⟨a3,a4⟩)));go_wp2_with fail;go_ret;rw [HE.out];exact⟨rfl,rfl⟩
   ·have i4:¬(nc:Int)≤90:=by omega
    have i5:(48:Int)≤(nc:Int):=by omega
    have i6:¬(nc:Int)≤57:=by omega
    have HE:=aa (show b=false from by rw [HB.out];exact decide_eq_false (by omega));go_wp2_with fail;go_ret;rw [HE.out];exact⟨rfl,rfl⟩
  ·have i3:¬(65:Int)≤(nc:Int):=by omega
   by_cases a5:48≤nc
   ·have i5:(48:Int)≤(nc:Int):=by omega
    by_cases a6:nc≤57
    ·have i6:(nc:Int)≤57:=by omega
     have HE:=aa (show b=true from by rw [HB.out];exact decide_eq_true (Or.inr (Or.inr ⟨a5,a6⟩)));go_wp2_with fail;go_ret;rw [HE.out];exact⟨rfl,rfl⟩
    ·have i6:¬(nc:Int)≤57:=by omega
     have HE:=aa (show b=false from by rw [HB.out];exact decide_eq_false (by omega));go_wp2_with fail;go_ret;rw [HE.out];exact⟨rfl,rfl⟩
   ·have i5:¬(48:Int)≤(nc:Int):=by omega
    have HE:=aa (show b=false from by rw [HB.out];exact decide_eq_false (by omega));go_wp2_with fail;go_ret;rw [HE.out];exact⟨rfl,rfl⟩
theorem rG{c:UInt8}{b:Bool}(h:Hid (jQ c=b))(w:World):Calls Tryz.prog 259 #[.int .u8 c.toNat] w fun e w'=>e=.returned (.bool b)∧w=w':=by
 rw [←h.out];exact rF c w
theorem ua(l:ah)(c:UInt8):(0≤Lib.indexByte l c↔oM c l=true):=by
 unfold oM;rw [List.contains_iff_mem];rcases ce l c with h|⟨i,h⟩
 ·refine⟨fun h2=>by omega,fun h2=> ?_⟩;obtain⟨k,hk⟩:=List.getElem?_of_mem h2;exact absurd hk (Lib.indexByte_none h k)
 ·refine⟨fun _=>List.mem_of_getElem? (Lib.indexByte_some h).1,fun _=>by omega⟩
def xw(some:ah)(c:UInt8):Bool:=jQ c||oM c some
theorem CK(s t:ByteArray)(hs:s.size≤1000000)(w:World):Calls Tryz.prog 249 #[.string s,.string t] w fun e w'=>e=.returned (.bool ((af s).all (xw t.data.toList)))∧w=w':=by
 obtain⟨R,hR⟩:=ai ((af s).all (xw t.data.toList));rw [hR];have HR:=aa hR;clear hR;go_in;go_wp2_with fail
 go_loop [8] (fun i=>∃ k:Nat,k≤s.size∧i=.int .i64 k∧((af s).take k).all (xw t.data.toList)=true) (fun i=>s.size-(intOf i).toNat)
 case atStart=>exact⟨0,Nat.zero_le _,rfl,by simp⟩
 case round=>
  obtain⟨k,hk,rfl,hall⟩:=hrel;have HA:=aa hall;clear hall;by_cases hlt:k < s.size
  ·have hkl:k < (af s).length:=by rw [ag];exact hlt
   have hc2:(af s)[k]=s[k]:=rfl;have HC:=aa hc2;obtain⟨a,ha⟩:=ai (jQ s[k]);obtain⟨b,hb⟩:=ai (oM s[k] t.data.toList);have HAl:=aa ha;have HIn:=aa hb;have hx:=ua t.data.toList s[k];rw [hb] at hx;obtain⟨x,hxe⟩:=ai (Lib.indexByte t.data.toList s[k]);rw [hxe] at hx;have HIx:=aa (fun (W:World)=>Tryz.strings_IndexByte t (s[k].toNat:Int) W);have hcc:((s[k].toNat:Int)).toNat.toUInt8=s[k]:=by simp
   rw [hcc,hxe] at HIx;have HStep:=aa (show ((af s).take (k+1)).all (xw t.data.toList)=(a||b) from by
    rw [List.take_add_one,List.getElem?_eq_getElem hkl,HC.out,List.all_append,HA.out];simp [xw,ha,hb])
   have k1:(0:Int)≤(k:Int):=by omega
   have k2:(k:Int) < (s.size:Int):=by omega
   have HNo:=aa (fun (h:(a||b)=false)=>show R=false from by
    rw [←HR.out,List.all_eq_false];refine⟨s[k],by rw [←HC.out];exact List.getElem_mem hkl,?_⟩;unfold xw;rw [HAl.out,HIn.out,h];decide)
   clear ha hb hxe hcc hc2;go_wp2_with fail;refine(rG HAl _).mono ?_;rintro e w1 ⟨rfl,rfl⟩
   cases a with
   |true=>
    go_wp2_with fail;exact⟨⟨k+1,by omega,by go_num,by rw [HStep.out];rfl⟩,by simp [intOf];omega⟩
   |false=>
    go_wp2_with fail;refine(HIx.out _).mono ?_;rintro e w2 ⟨rfl,rfl⟩
    cases b with
    |true=>
     have hx0:¬x < 0:=by have:=hx.2 rfl;omega
     go_wp2_with fail;exact⟨⟨k+1,by omega,by go_num,by rw [HStep.out];rfl⟩,by simp [intOf];omega⟩
    |false=>
     have hx0:x < 0:=by
      by_cases h:0≤x
      ·exact absurd (hx.1 h) (by decide)
      ·omega
     have HE:=aa (HNo.out rfl);go_wp2_with fail;go_ret;rw [HE.out];exact⟨rfl,rfl⟩
  ·obtain rfl:k=s.size:=by omega
   have HE:=aa (show R=true from by
    rw [←HR.out];have h:=HA.out
    rwa [List.take_of_length_le (by rw [ag];exact Nat.le_refl _)] at h)
   go_wp2_with fail;go_ret;rw [HE.out];exact⟨rfl,rfl⟩
theorem tL:xw [45,46]=ij:=by
 funext c
 have:=cJ (fun c=>xw [45,46] c==ij c) (by decide+kernel) c;simpa using this
def jZ(h:ah):Bool:=decide (1≤h.length)&&(decide (h.length≤100)&&h.all ij)
theorem iw{p:UInt8→Bool}:∀ {l:ah} (r:ah),l.all p=true→(l++r).takeWhile p=l++r.takeWhile p
 |[],_,_=>rfl
 |c::l,r,h=>by
  rw [List.all_cons,Bool.and_eq_true] at h;rw [List.cons_append,List.takeWhile_cons_of_pos h.1,iw r h.2];rfl
theorem CX{p:UInt8→Bool}:∀ {l:ah},l.all p=false→∃ a c b,l=a++c::b∧a.all p=true∧p c=false
 |[],h=>by cases h
 |c::l,h=>by
  cases hc:p c with
  |false=>exact⟨[],c,l,rfl,rfl,hc⟩
  |true=>
   rw [List.all_cons,hc,Bool.true_and] at h;obtain⟨a,d,b,e,h1,h2⟩:=CX h;exact⟨c::a,d,b,by rw [e];rfl,by rw [List.all_cons,hc,h1];rfl,h2⟩
theorem pg{l r:ah}(hn:∀ c∈l,c≠58)(h:l.all ij=false):eh (l++r)=false:=by
 obtain⟨a,c,b,e,h1,h2⟩:=CX h;have ht:(l++r).takeWhile ij=a:=by
  rw [e,List.append_assoc,iw _ h1,List.cons_append,List.takeWhile_cons_of_neg (by rw [h2];decide),List.append_nil]
 unfold eh;rw [ht];split
 ·rfl
 ·rw [e,List.append_assoc,List.drop_left,List.cons_append,nD,if_pos (Or.inl (hn c (by rw [e];simp)))]
theorem uz{s:ah}(hn:∀ c∈s,c≠58):eh s=jZ s:=by
 cases h:s.all ij with
 |false=>
  have:=pg (r:=[]) hn h;rw [List.append_nil] at this;rw [this];unfold jZ;rw [h];simp
 |true=>
  have ht:s.takeWhile ij=s:=by
   have:=iw [] h;rw [List.append_nil] at this;rw [this];simp
  unfold eh jZ;rw [ht,h];by_cases h1:s.length < 1∨100 < s.length
  ·rw [if_pos h1];rcases h1 with h1|h1
   ·rw [decide_eq_false (by omega)];rfl
   ·rw [decide_eq_false (p:=s.length≤100) (by omega)];simp
  ·rw [if_neg h1,List.drop_length,decide_eq_true (by omega),decide_eq_true (by omega)];rfl
theorem yq{h p:ah}(hn:∀ c∈h,c≠58):eh (h++58::p)=(jZ h&&(decide (p.length≤5)&&((fW p).2&&decide ((fW p).1≤65535)))):=by
 cases ha:h.all ij with
 |false=>
  rw [pg hn ha];unfold jZ;rw [ha];simp
 |true=>
  have ht:(h++58::p).takeWhile ij=h:=by rw [iw _ ha,List.takeWhile_cons_of_neg (by decide),List.append_nil]
  unfold eh jZ;rw [ht,ha];by_cases h1:h.length < 1∨100 < h.length
  ·rw [if_pos h1];rcases h1 with h1|h1
   ·rw [decide_eq_false (by omega)];rfl
   ·rw [decide_eq_false (p:=h.length≤100) (by omega)];simp
  ·rw [if_neg h1,List.drop_left,decide_eq_true (by omega),decide_eq_true (by omega),nD];by_cases h5:5 < p.length
   ·rw [if_pos (Or.inr h5),decide_eq_false (by omega)];simp
   ·rw [if_neg (by simp;omega),decide_eq_true (p:=p.length≤5) (by omega)];simp
theorem mA{s t:ByteArray}{b:Bool}(h:Hid ((af s).all (xw t.data.toList)=b))(hs:s.size≤1000000)(w:World):Calls Tryz.prog 249 #[.string s,.string t] w fun e w'=>e=.returned (.bool b)∧w=w':=by
 rw [←h.out];exact CK s t hs w
theorem wU{s:ByteArray}{a:Int}{b:Bool}(h:Hid (fW (af s)=(a,b)))(hs:s.size≤1000000)(w:World):Calls Tryz.prog 248 #[.string s] w fun e w'=>e=.returned (.tuple #[.int .i64 a,.bool b])∧Sm No w w':=by
 have:=EG s hs w;have e:fL 10 15 (af s)=(a,b):=h.out;rw [e] at this;exact this
theorem CD(s:ByteArray)(hs:s.size≤100000)(w:World):
 Calls Tryz.prog 226 #[.string s] w fun e w'=>e=.returned (.bool (eh (af s)))∧Sm No w w':=by
 obtain⟨R,hR⟩:=ai (eh (af s));rw [hR];rcases ce s.data.toList 58 with h2|⟨i,h2⟩
 ·have hn:∀ c∈af s,c≠58:=fun c hc e=>by
   obtain⟨k,hk⟩:=List.getElem?_of_mem hc;exact Lib.indexByte_none h2 k (by rw [←e];exact hk)
  have hRh:R=jZ (af s):=by rw [←hR];exact uz hn
  obtain⟨b,hb⟩:=ai ((af s).all (xw [45,46]));have HB:=aa (show (af s).all (xw (⟨#[45,46]⟩:ByteArray).data.toList)=b from hb);have HR:=aa (show R=(decide (1≤s.size)&&(decide (s.size≤100)&&b)) from by rw [hRh,←hb,tL];unfold jZ;rw [ag]);have H2:=aa h2;clear h2 hn hRh hb hR;go_in;go_wp2_with fail;refine(nI s 58 _ H2).mono ?_;rintro e w1 ⟨rfl,rfl⟩;by_cases g1:1≤s.size
  ·have i1:(1:Int)≤(s.size:Int):=by omega
   by_cases g2:s.size≤100
   ·have i2:(s.size:Int)≤100:=by omega
    go_wp2_with fail;refine(mA HB (by omega) _).mono ?_;rintro e w2 ⟨rfl,rfl⟩;go_wp2_with fail;go_ret;rw [HR.out,decide_eq_true g1,decide_eq_true g2];exact⟨rfl,Sm.refl _ _⟩
   ·have i2:¬(s.size:Int)≤100:=by omega
    go_wp2_with fail;go_ret;rw [HR.out,decide_eq_false g2];exact⟨by simp,Sm.refl _ _⟩
  ·have i1:¬(1:Int)≤(s.size:Int):=by omega
   go_wp2_with fail;go_ret;rw [HR.out,decide_eq_false g1];exact⟨by simp,Sm.refl _ _⟩
 ·obtain⟨hat,hbef⟩:=Lib.indexByte_some h2;have hi:i < s.size:=by
   have:=(List.getElem?_eq_some_iff.1 hat).1;simpa using this
  have hsp:af s=(af s).take i++58::(af s).drop (i+1):=by
   have h3:(af s).drop i=58::(af s).drop (i+1):=by
    rw [List.drop_eq_getElem_cons (by rw [ag];exact hi)];congr 1;have h4:(af s)[i]?=some 58:=hat;rw [List.getElem?_eq_getElem (by rw [ag];exact hi)] at h4;injection h4
   rw [←h3,List.take_append_drop]
  have hn:∀ c∈(af s).take i,c≠58:=fun c hc e=>by
   obtain⟨k,hk⟩:=List.getElem?_of_mem hc;rw [List.getElem?_take] at hk;split at hk
   ·rename_i hki
    exact hbef k hki (by rw [←e];exact hk)
   ·cases hk
  obtain⟨hb0,hbe⟩:=ai (s.extract 0 i);obtain⟨pb,hpb⟩:=ai (s.extract (i+1) s.size);have ht1:af hb0=(af s).take i:=by rw [←hbe,bz];simp
  have ht2:af pb=(af s).drop (i+1):=by rw [←hpb,gx]
  have hz1:hb0.size=i:=by rw [←ag,ht1,List.length_take,ag];omega
  have hz2:pb.size≤100000:=by rw [←ag,ht2,List.length_drop,ag];omega
  obtain⟨⟨pn,pok⟩,hnum⟩:∃ x,fW (af pb)=x:=⟨_,rfl⟩;obtain⟨b,hb⟩:=ai ((af hb0).all (xw [45,46]));have HB:=aa (show (af hb0).all (xw (⟨#[45,46]⟩:ByteArray).data.toList)=b from hb);have HNum:=aa hnum;have HR:=aa (show R=((decide (1≤hb0.size)&&(decide (hb0.size≤100)&&b))&&(decide (pb.size≤5)&&(pok&&decide (pn≤65535)))) from by
   rw [←hR,hsp,yq hn,←ht1,←ht2,hnum,←hb,tL];unfold jZ;rw [ag,ag])
  have HI:=aa (ab hi h2);have hz3:hb0.size≤100000:=by omega
  clear hat hbef hsp hn ht1 ht2 hz1 hnum hb hR h2 hi;go_in;go_wp2_with fail;refine(mU s 58 _ i HI.out.1 (by omega) (aa HI.out.2)).mono ?_;rintro e w1 ⟨rfl,nn,hw1⟩;rw [hbe,hpb];have H1:=aa (show Sm No w w1 from by rw [hw1];exact(Sm.refl No w).drewN _);clear hw1 hbe hpb;go_wp2_with fail;refine(wU HNum (by omega) _).mono ?_;rintro e w2 ⟨rfl,hs2⟩;have H2:=aa (H1.out.tt hs2);clear hs2
  cases pok with
  |false=>
   have HE:=aa (show R=false from by rw [HR.out];simp);go_wp2_with fail;go_ret;rw [HE.out];exact⟨rfl,H2.out⟩
  |true=>
   by_cases g5:pb.size≤5
   ·have i5:¬(5:Int) < (pb.size:Int):=by omega
    by_cases g6:pn≤65535
    ·have i6:¬(65535:Int) < pn:=by omega
     have HR2:=aa (show R=(decide (1≤hb0.size)&&(decide (hb0.size≤100)&&b)) from by rw [HR.out,decide_eq_true g5,decide_eq_true g6];simp);clear g5 g6;by_cases g1:1≤hb0.size
     ·have i1:(1:Int)≤(hb0.size:Int):=by omega
      by_cases g2:hb0.size≤100
      ·have i2:(hb0.size:Int)≤100:=by omega
       go_wp2_with fail;refine(mA HB (by omega) _).mono ?_;rintro e w3 ⟨rfl,rfl⟩;go_wp2_with fail;go_ret;rw [HR2.out,decide_eq_true g1,decide_eq_true g2];exact⟨rfl,H2.out⟩
      ·have i2:¬(hb0.size:Int)≤100:=by omega
       go_wp2_with fail;go_ret;rw [HR2.out,decide_eq_false g2];exact⟨by simp,H2.out⟩
     ·have i1:¬(1:Int)≤(hb0.size:Int):=by omega
      go_wp2_with fail;go_ret;rw [HR2.out,decide_eq_false g1];exact⟨by simp,H2.out⟩
    ·have i6:(65535:Int) < pn:=by omega
     have HE:=aa (show R=false from by rw [HR.out,decide_eq_false g6];simp);clear g5 g6;go_wp2_with fail;go_ret;rw [HE.out];exact⟨rfl,H2.out⟩
   ·have i5:(5:Int) < (pb.size:Int):=by omega
    have HE:=aa (show R=false from by rw [HR.out,decide_eq_false g5];simp);clear g5;go_wp2_with fail;go_ret;rw [HE.out];exact⟨rfl,H2.out⟩
def GH(s:ByteArray)(w:World)(b i:Value)(wr:World):Prop:=
 ∃ (k:Nat) (acc:ah) (v:Value),k≤s.size∧v=b∧i=.int .i64 k∧acc.length≤k∧dA s.data.toList=(dA (s.data.toList.drop k)).map (acc++·)∧aG wr w.heap.size v acc∧Sm No w wr
theorem GV(x y:UInt8):fL 16 12 [x,y]=if aJ x < 0∨aJ y < 0 then (0,false) else (aJ x * 16+aJ y,true):=by
 have hx:=iU x;have hy:=iU y;rw [xq (by simp)];unfold dK;by_cases h1:aJ x < 0
 ·rw [if_pos (Or.inl h1),if_pos (Or.inl h1)]
 ·rw [if_neg (by omega)];unfold dK;by_cases h2:aJ y < 0
  ·rw [if_pos (Or.inl h2),if_pos (Or.inr h2)]
  ·rw [if_neg (by omega),if_neg (by omega)];unfold dK;simp
theorem BF{x y:UInt8}(hx:0≤aJ x)(hy:0≤aJ y):((pN x y).toNat:Int)=aJ x * 16+aJ y:=by
 have bx:=iU x;have b2:=iU y;unfold pN;rw [UInt8.toNat_ofNat'];omega
theorem rk{s:ByteArray}{a:Int}{b:Bool}(h:Hid (fL 16 12 (af s)=(a,b)))(hs:s.size≤1000000)(w:World):Calls Tryz.prog 252 #[.string s] w fun e w'=>e=.returned (.tuple #[.int .i64 a,.bool b])∧Sm No w w':=by
 have:=xv s hs w;rw [h.out] at this;exact this
theorem vX(s:ByteArray)(hs:s.size≤1000000)(w:World):
 Calls Tryz.prog 255 #[.string s] w fun e w'=>e=.returned (Fx (dA s.data.toList))∧Sm No w w':=by
 obtain⟨R,hR⟩:=ai (dA s.data.toList);rw [hR];have HR:=aa hR;clear hR;go_in;go_wp2_with fail
 go_loopw [4,5] (fun b i wr=>GH s w b i wr) (fun _ i _=>s.size-(intOf i).toNat)
 case atStart=>exact⟨0,[],_,Nat.zero_le _,rfl,rfl,by simp,by rw [List.drop_zero];simp,World.ownsRow_nil _ _ _ 1,Sm.refl _ _⟩
 case round=>
  obtain⟨k,acc,bv,hk,rfl,rfl,hacc,hqr,hO,hsm⟩:=hrel;have HQ:=aa (ab hqr (ab hO hsm));clear hqr hO hsm;by_cases hlt:k < s.size
  ·have hd:=eM s k hlt;obtain⟨c,hc⟩:=ai (s[k]);have hc256:=c.toNat_lt;rw [hc] at hd;by_cases hc1:c=37
   ·have ht:((c.toNat:Int)==37)=true:=by rw [hc1];rfl
    by_cases hl2:k+2 < s.size
    ·have hd2:=eM s (k+1) (by omega);have hd3:=eM s (k+2) hl2;obtain⟨x,hx⟩:=ai (s[k+1]'(by omega));obtain⟨y,hy⟩:=ai (s[k+2]);rw [hx] at hd2;rw [hy] at hd3;obtain⟨hb,hbe⟩:=ai (s.extract (k+1) (k+3));have htx:af hb=[x,y]:=by
      rw [←hbe,bz];have e1:(af s).drop (k+1)=x::y::(af s).drop (k+3):=by
       have h1:(af s).drop (k+1)=x::(af s).drop (k+1+1):=hd2;have h2:(af s).drop (k+2)=y::(af s).drop (k+2+1):=hd3;rw [h1,show k+1+1=k+2 by omega,h2]
      rw [List.drop_take,e1,show k+3-(k+1)=2 by omega];rfl
     have hbz:hb.size=2:=by rw [←ag,htx];rfl
     have hst:dA s.data.toList=(if aJ x < 0∨aJ y < 0 then none else if pN x y=0 then none else (dA (s.data.toList.drop (k+3))).map (pN x y::·)).map (acc++·):=by
      rw [HQ.out.1,hd,hd2,hd3,hc1,tW]
     have HST:=aa hst;have hn2:=GV x y;rw [←htx] at hn2;have k3:(0:Int)≤(k:Int)+1:=by omega
     have k4:¬(s.size:Int)≤(k:Int)+2:=by omega
     have k5:(k:Int)+3≤(s.size:Int):=by omega
     clear hd hd2 hd3 hst htx;by_cases hxy:aJ x < 0∨aJ y < 0
     ·rw [if_pos hxy] at hn2;have HN:=aa hn2;have HE:=aa (show none=R from by
       have h:=HST.out;rw [if_pos hxy] at h;exact h.symm.trans HR.out)
      clear hn2 hxy;go_wp2_with fail;refine(rk HN (by omega) _).mono ?_;rintro e w2 ⟨rfl,hs2⟩;have H2:=aa (HQ.out.2.2.tt hs2);clear hs2;go_wp2_with fail;go_ret2;exact⟨by rw [←HE.out];rfl,H2.out⟩
     ·rw [if_neg hxy] at hn2;obtain⟨cv,hcv⟩:=ai (pN x y);have hv:aJ x * 16+aJ y=(cv.toNat:Int):=by rw [←hcv];exact(BF (by omega) (by omega)).symm
      rw [hv] at hn2;have HN:=aa hn2;have hcvb:=cv.toNat_lt;have HST2:=aa (show dA s.data.toList=(if cv=0 then none else (dA (s.data.toList.drop (k+3))).map (cv::·)).map (acc++·) from by
       have h:=HST.out;rw [if_neg hxy,hcv] at h;exact h)
      clear hcv hn2 hxy hv;go_wp2_with fail;refine(rk HN (by omega) _).mono ?_;rintro e w2 ⟨rfl,hs2⟩;have H2:=aa (ab (HQ.out.2.2.tt hs2) (ae HQ.out.2.1 hs2 (fun _ _ e=>e)));clear hs2;by_cases hz:cv=0
      ·have HE:=aa (show none=R from by
        have h:=HST2.out;rw [if_pos hz] at h;exact h.symm.trans HR.out)
       have e1:((cv.toNat:Int)==0)=true:=by rw [hz];rfl
       clear hz;go_wp2_with fail;go_ret2;exact⟨by rw [←HE.out];rfl,H2.out.1⟩
      ·have e1:((cv.toNat:Int)==0)=false:=dq (n:=0) (by decide) hz;have HR2:=aa (show dA s.data.toList=(dA (s.data.toList.drop (k+3))).map ((acc++[cv])++·) from by
        have h:=HST2.out;rw [if_neg hz,wT] at h;exact h)
       have hB2:=H2.out.1.size;have hal:acc.length≤1000000:=by omega
       clear hz;go_wp2_with (refine aY rfl _ _ 34 5 rfl Tryz.underlying34 _ 1 1 fC rfl (by decide) (by decide) w.heap.size _ bv _ rfl (World.ownsRow.alloc H2.out.2 _) w2.heap.size #[.int .u8 cv.toNat] rfl (Bk.new w2 _ _) rfl (by simp [Value.oneCell']) hal (by simp;omega) ?_;intro v' w3 hown3 hs3 _;refine RowKit.Hid.out ?_);refine aa ?_;have hO3:aG w3 w.heap.size v' (acc++[cv]):=aG.push hown3 rfl;have hS3:Sm No w w3:=(H2.out.1.alloc (.cells #[.int .u8 cv.toNat] 5)).trans hs3 (fun b hb e=>by
        have:=(World.ownsRow.lt H2.out.2 b e).1;omega)
       have H3:=aa (ab hO3 hS3);clear hO3 hS3 hown3 hs3;go_wp2_with fail;exact⟨⟨k+3,acc++[cv],v',by omega,rfl,by go_num,by simp;omega,HR2.out,H3.out.1,H3.out.2⟩,by simp [intOf];omega⟩
    ·have HE:=aa (show none=R from by
      have h:=HQ.out.1;rw [hd,hc1,jK (by simp;omega)] at h;exact h.symm.trans HR.out)
     have k4:(s.size:Int)≤(k:Int)+2:=by omega
     clear hd hc1;go_wp2_with fail;go_ret2;exact⟨by rw [←HE.out];rfl,HQ.out.2.2⟩
   ·have ht:((c.toNat:Int)==37)=false:=dq (n:=37) (by decide) hc1;have HR2:=aa (show dA s.data.toList=(dA (s.data.toList.drop (k+1))).map ((acc++[c])++·) from by rw [HQ.out.1,hd,nd hc1,wT]);have hal:acc.length≤1000000:=by omega
    have hB2:=HQ.out.2.2.size;clear hd hc1;go_wp2_with (refine aY rfl _ _ 34 5 rfl Tryz.underlying34 _ 1 1 fC rfl (by decide) (by decide) w.heap.size _ bv _ rfl (World.ownsRow.alloc HQ.out.2.1 _) wr.heap.size #[.int .u8 c.toNat] rfl (Bk.new wr _ _) rfl (by simp [Value.oneCell']) hal (by simp;omega) ?_;intro v' w3 hown3 hs3 _;refine RowKit.Hid.out ?_);refine aa ?_;have hO3:aG w3 w.heap.size v' (acc++[c]):=aG.push hown3 rfl;have hS3:Sm No w w3:=(HQ.out.2.2.alloc (.cells #[.int .u8 c.toNat] 5)).trans hs3 (fun b hb e=>by
     have:=(World.ownsRow.lt HQ.out.2.1 b e).1;omega)
    have H3:=aa (ab hO3 hS3);clear hO3 hS3 hown3 hs3;go_wp2_with fail;exact⟨⟨k+1,acc++[c],v',by omega,rfl,by go_num,by simp;omega,HR2.out,H3.out.1,H3.out.2⟩,by simp [intOf];omega⟩
  ·obtain rfl:k=s.size:=by omega
   have HE:=aa (show some acc=R from by
    have h:=HQ.out.1;rw [List.drop_of_length_le (by simp)] at h;have h2:dA s.data.toList=some (acc++[]):=h;rw [List.append_nil] at h2;exact h2.symm.trans HR.out)
   go_wp2_with (refine fP rfl 34 9 _ rfl w.heap.size acc _ rfl HQ.out.2.1 Tryz.underlying34 Tryz.underlying5 Tryz.underlying9 ?_);go_ret2;exact⟨by rw [←HE.out];rfl,HQ.out.2.2⟩
theorem Fh{l:ah}(h:Lib.indexByte l 63= -1):l.takeWhile va=l∧l.drop (l.length+1)=[]:=by
 have ha:l.all va=true:=by
  rw [List.all_eq_true];intro c hc;obtain⟨k,hk⟩:=List.getElem?_of_mem hc;have:=Lib.indexByte_none h k;unfold va
  cases h2:c==63 with
  |false=>rfl
  |true=>rw [beq_iff_eq] at h2;subst h2;exact absurd hk this
 have:=iw [] ha;rw [List.append_nil] at this;exact⟨by rw [this];simp,List.drop_of_length_le (by omega)⟩
theorem Fv{l:ah}{i:Nat}(h:Lib.indexByte l 63=i):i < l.length∧l.takeWhile va=l.take i∧(l.take i).length=i:=by
 obtain⟨hat,hbef⟩:=Lib.indexByte_some h;have hi:=(List.getElem?_eq_some_iff.1 hat).1;have hsp:l=l.take i++63::l.drop (i+1):=by
  have h3:l.drop i=63::l.drop (i+1):=by
   rw [List.drop_eq_getElem_cons hi];congr 1;rw [List.getElem?_eq_getElem hi] at hat;injection hat
  rw [←h3,List.take_append_drop]
 have ha:(l.take i).all va=true:=by
  rw [List.all_eq_true];intro c hc;obtain⟨k,hk⟩:=List.getElem?_of_mem hc;rw [List.getElem?_take] at hk;split at hk
  ·rename_i hki
   unfold va
   cases h2:c==63 with
   |false=>rfl
   |true=>rw [beq_iff_eq] at h2;subst h2;exact absurd hk (hbef k hki)
  ·cases hk
 refine⟨hi,?_,by rw [List.length_take];omega⟩;have e:=iw (63::l.drop (i+1)) ha;rw [←hsp] at e;rw [e,List.takeWhile_cons_of_neg (by decide),List.append_nil]
def qz:Value:=.agg #[.int .i64 0,.string ⟨#[]⟩,.string ⟨#[]⟩,.string ⟨#[]⟩]
def dg(form:Int)(hB:ByteArray)(s:ah)(w:World)(e:Ending)(w':World):Prop:=
 Sm No w w'∧match fa s with
  |some (p,q)=>e=.returned (.tuple #[.agg #[.int .i64 form,.string hB,.string ⟨p.toArray⟩,.string ⟨q.toArray⟩],.int .i64 0])
  |none=>e=.returned (.tuple #[qz,.int .i64 8])
theorem dg.no{form:Int}{hB:ByteArray}{s:ah}{w w':World}(h:fa s=none)(hs:Sm No w w'):dg form hB s w (.returned (.tuple #[qz,.int .i64 8])) w':=by
 refine⟨hs,?_⟩;rw [h]
theorem dg.yes{form:Int}{hB:ByteArray}{s p q:ah}{w w':World}(h:fa s=some (p,q))(hs:Sm No w w'):dg form hB s w (.returned (.tuple #[.agg #[.int .i64 form,.string hB,.string ⟨p.toArray⟩,.string ⟨q.toArray⟩],.int .i64 0])) w':=by
 refine⟨hs,?_⟩;rw [h]
theorem jD(s hB:ByteArray)(form:Int)(hs:s.size≤100000)(w:World)(hg:G0 w):
 Calls Tryz.prog 246 #[.agg #[.int .i64 form,.string hB,.string ⟨#[]⟩,.string ⟨#[]⟩],.string s] w (dg form hB (af s) w):=by
 obtain⟨R,hR⟩:=ai (dg form hB (af s) w);obtain⟨a,ha⟩:=ai ((af s).all Gw);have HA:=aa (show (af s).all (xw (⟨#[45,46,95,126,33,36,38,39,40,41,42,43,44,59,61,58,64,47,37,63]⟩:ByteArray).data.toList)=a from ha);have HAl:=aa ha;have HG:=aa hg;have HR:=aa hR;rw [hR];clear ha hg hR;obtain⟨b0,hb0⟩:=ai w.heap.size;have HB0:=aa hb0;clear hb0;go_in;go_wp2_with fail;rw [HB0.out];obtain⟨w1,hw1⟩:∃ w1,(w.alloc (.cells #[.int .i64 form,.string hB,.string ⟨#[]⟩,.string ⟨#[]⟩] 170)).alloc (.cells #[.int .i64 0,.string ⟨#[]⟩,.string ⟨#[]⟩,.string ⟨#[]⟩] 170)=w1:=⟨_,rfl⟩;have hs1:Sm No w w1:=by rw [←hw1];exact((Sm.refl No w).alloc _).alloc _
 have h01:Bk w1 b0 170 #[.int .i64 form,.string hB,.string ⟨#[]⟩,.string ⟨#[]⟩]:=by rw [←hw1,←HB0.out];exact(Bk.new w _ _).alloc _
 have h11:Bk w1 (b0+1) 170 #[.int .i64 0,.string ⟨#[]⟩,.string ⟨#[]⟩,.string ⟨#[]⟩]:=by rw [←hw1];exact Bk.newAt _ _ _ (by rw [←HB0.out];simp)
 rw [hw1];have H1:=aa (ab hs1 (ab h01 h11));clear hs1 h01 h11 hw1;refine(mA HA (by omega) _).mono ?_;rintro e w1' ⟨rfl,rfl⟩
 cases a with
 |false=>
  have HNo:=aa (show fa (af s)=none from by unfold fa;rw [if_neg (by rw [HAl.out];decide)]);have z0:=H1.out.2.2.at 0 (v:=.int .i64 0) rfl;have z1:=H1.out.2.2.at 1 (v:=.string ⟨#[]⟩) rfl;have z2:=H1.out.2.2.at 2 (v:=.string ⟨#[]⟩) rfl;have z3:=H1.out.2.2.at 3 (v:=.string ⟨#[]⟩) rfl;have zf:=H1.out.2.2.fz;have zl:=H1.out.2.2.lt;go_wp2_with fail;have hsE:Sm No w _:=H1.out.1.fresh (((((Sm.refl (fun b=>b=b0+1) w1).set1 0 (.int .i64 0)).set1 1 (.string ⟨#[]⟩)).set1 2 (.string ⟨#[]⟩)).set1 3 (.string ⟨#[]⟩)) (fun b e=>by have:=HB0.out;omega);exact bodyPost_ret (v:=.tuple #[.agg #[.int .i64 0,.string ⟨#[]⟩,.string ⟨#[]⟩,.string ⟨#[]⟩],.int .i64 8]) (by simp [results,Tryz.results246,go_sem,z0,z1,z2,z3]) rfl (by rw [←HR.out];exact dg.no HNo.out hsE)
 |true=>
  have HOr:=aa (show fa (af s)=AS (dA ((af s).takeWhile va)) ((af s).drop (((af s).takeWhile va).length+1)) from by unfold fa;rw [if_pos HAl.out]);have hcut:∃ pB qB:ByteArray,∃ f:Bool,af pB=(af s).takeWhile va∧af qB=(af s).drop (((af s).takeWhile va).length+1)∧pB.size≤100000∧∀ W:World,Calls Tryz.prog 247 #[.string s,.string ⟨#[63]⟩] W fun e W'=>e=.returned (.tuple #[.string pB,.string qB,.bool f])∧Sm No W W':=by
   rcases ce (af s) 63 with h|⟨i,h⟩
   ·obtain⟨h1,h2⟩:=Fh h;refine⟨s,⟨#[]⟩,false,by rw [h1],by rw [h1,h2];rfl,by omega,fun W=>(nI s 63 W (aa h)).mono ?_⟩;rintro e W' ⟨rfl,rfl⟩;exact⟨rfl,Sm.refl _ _⟩
   ·obtain⟨hi,h1,h2⟩:=Fv h;rw [ag] at hi;refine⟨s.extract 0 i,s.extract (i+1) s.size,true,by rw [bz,h1];simp,by rw [gx,h1,h2],?_,fun W=>(mU s 63 W i hi (by omega) (aa h)).mono ?_⟩
    ·rw [←ag,bz];simp;have:=ag s;omega
    ·rintro e W' ⟨rfl,nn,rfl⟩;exact⟨rfl,(Sm.refl No W).drewN _⟩
  obtain⟨pB,qB,cf,hp,hq,hpz,hC⟩:=hcut;have HC:=aa hC;have hOr:=HOr.out;rw [←hq,←hp] at hOr;have HOr2:=aa hOr;clear hp hq hC hOr;go_wp2_with fail;refine(HC.out _).mono ?_;rintro e w2 ⟨rfl,hs2⟩;have H2:=aa (ab (H1.out.1.tt hs2) (ab (H1.out.2.1.sm hs2 (fun h=>h)) (H1.out.2.2.sm hs2 (fun h=>h))));clear hs2;obtain⟨D,hD⟩:=ai (dA pB.data.toList);have hdec:=vX pB (by omega) w2;rw [hD] at hdec;have HDe:=aa hdec;have HDl:=aa (show fa (af s)=AS D (af qB) from by rw [HOr2.out];exact congrArg (fun o=>AS o _) hD);have hDz:∀ d,D=some d→d.length≤100000:=fun d hd=>by
   have:=kj _ _ d (Nat.le_refl _) (hD.trans hd);have h3:pB.data.toList.length=pB.size:=by simp
   omega
  have HDz:=aa hDz;clear hD hdec hDz;go_wp2_with fail;refine HDe.out.mono ?_;rintro e w3 ⟨rfl,hs3⟩;have H3:=aa (ab (H2.out.1.tt hs3) (ab (H2.out.2.1.sm hs3 (fun h=>h)) (H2.out.2.2.sm hs3 (fun h=>h))));clear hs3
  cases D with
  |none=>
   have HNo:=aa (show fa (af s)=none from by rw [HDl.out];rfl);unfold Fx;have z0:=H3.out.2.2.at 0 (v:=.int .i64 0) rfl;have z1:=H3.out.2.2.at 1 (v:=.string ⟨#[]⟩) rfl;have z2:=H3.out.2.2.at 2 (v:=.string ⟨#[]⟩) rfl;have z3:=H3.out.2.2.at 3 (v:=.string ⟨#[]⟩) rfl;have zf:=H3.out.2.2.fz;have zl:=H3.out.2.2.lt;go_wp2_with fail;have hsE:Sm No w _:=H3.out.1.fresh (((((Sm.refl (fun b=>b=b0+1) w3).set1 0 (.int .i64 0)).set1 1 (.string ⟨#[]⟩)).set1 2 (.string ⟨#[]⟩)).set1 3 (.string ⟨#[]⟩)) (fun b e=>by have:=HB0.out;omega);exact bodyPost_ret (v:=.tuple #[.agg #[.int .i64 0,.string ⟨#[]⟩,.string ⟨#[]⟩,.string ⟨#[]⟩],.int .i64 8]) (by simp [results,Tryz.results246,go_sem,z0,z1,z2,z3]) rfl (by rw [←HR.out];exact dg.no HNo.out hsE)
  |some d=>
   have hdz:=HDz.out d rfl;obtain⟨dB,hdB⟩:=ai ((⟨d.toArray⟩:ByteArray));rw [show Fx (some d)=.tuple #[.string dB,.int .i64 0] from by rw [←hdB];rfl];have hdt:af dB=d:=by rw [←hdB];simp [af]
   have hdz2:dB.size≤100000:=by rw [←ag,hdt];exact hdz
   obtain⟨K,hK⟩:=ai (bt (af dB));have hcl:=kZ dB (by omega) w3 (HG.out.no H3.out.1);rw [hK] at hcl;have HCl:=aa hcl;have HKl:=aa (show fa (af s)=Fd K (af qB) from by rw [HDl.out,←hK,hdt];rfl);clear hdB hdt hdz hcl hK;go_wp2_with fail;refine HCl.out.mono ?_;rintro e w4 ⟨rfl,hs4⟩;have H4:=aa (ab (H3.out.1.tt hs4) (ab (H3.out.2.1.sm hs4 (fun h=>h)) (H3.out.2.2.sm hs4 (fun h=>h))));clear hs4
   cases K with
   |none=>
    have HNo:=aa (show fa (af s)=none from by rw [HKl.out];rfl);unfold eI;have z0:=H4.out.2.2.at 0 (v:=.int .i64 0) rfl;have z1:=H4.out.2.2.at 1 (v:=.string ⟨#[]⟩) rfl;have z2:=H4.out.2.2.at 2 (v:=.string ⟨#[]⟩) rfl;have z3:=H4.out.2.2.at 3 (v:=.string ⟨#[]⟩) rfl;have zf:=H4.out.2.2.fz;have zl:=H4.out.2.2.lt;go_wp2_with fail;have hsE:Sm No w _:=H4.out.1.fresh (((((Sm.refl (fun b=>b=b0+1) w4).set1 0 (.int .i64 0)).set1 1 (.string ⟨#[]⟩)).set1 2 (.string ⟨#[]⟩)).set1 3 (.string ⟨#[]⟩)) (fun b e=>by have:=HB0.out;omega);exact bodyPost_ret (v:=.tuple #[.agg #[.int .i64 0,.string ⟨#[]⟩,.string ⟨#[]⟩,.string ⟨#[]⟩],.int .i64 8]) (by simp [results,Tryz.results246,go_sem,z0,z1,z2,z3]) rfl (by rw [←HR.out];exact dg.no HNo.out hsE)
   |some r=>
    rw [show eI (some r)=.tuple #[.string ⟨r.toArray⟩,.bool true] from rfl];have HYes:=aa (show fa (af s)=some (r,af qB) from by rw [HKl.out];rfl);have y0:=H4.out.2.1.at 0 (v:=.int .i64 form) rfl;have y1:=H4.out.2.1.at 1 (v:=.string hB) rfl;have y2:=H4.out.2.1.at 2 (v:=.string ⟨#[]⟩) rfl;have y3:=H4.out.2.1.at 3 (v:=.string ⟨#[]⟩) rfl;have yf:=H4.out.2.1.fz;have yl:=H4.out.2.1.lt;have z0:=H4.out.2.2.at 0 (v:=.int .i64 0) rfl;have z1:=H4.out.2.2.at 1 (v:=.string ⟨#[]⟩) rfl;have z2:=H4.out.2.2.at 2 (v:=.string ⟨#[]⟩) rfl;have z3:=H4.out.2.2.at 3 (v:=.string ⟨#[]⟩) rfl;have zf:=H4.out.2.2.fz;have zl:=H4.out.2.2.lt;go_wp2_with fail;have hsE:Sm No w ((((((w4.setCell ⟨b0,2,none⟩ (.string ⟨r.toArray⟩)).setCell ⟨b0,3,none⟩ (.string qB)).setCell ⟨b0+1,0,none⟩ (.int .i64 form)).setCell ⟨b0+1,1,none⟩ (.string hB)).setCell ⟨b0+1,2,none⟩ (.string ⟨r.toArray⟩)).setCell ⟨b0+1,3,none⟩ (.string qB)):=
     H4.out.1.fresh (((((((Sm.refl (fun b=>b=b0∨b=b0+1) w4).setS (Or.inl rfl) 2 (.string ⟨r.toArray⟩)).setS (Or.inl rfl) 3 (.string qB)).setS (Or.inr rfl) 0 (.int .i64 form)).setS (Or.inr rfl) 1 (.string hB)).setS (Or.inr rfl) 2 (.string ⟨r.toArray⟩)).setS (Or.inr rfl) 3 (.string qB)) (fun b e=>by have:=HB0.out;omega)
    exact bodyPost_ret (v:=.tuple #[.agg #[.int .i64 form,.string hB,.string ⟨r.toArray⟩,.string qB],.int .i64 0]) (by simp [results,Tryz.results246,go_sem,z0,z1,z2,z3]) rfl (by
     rw [←HR.out];have h:=dg.yes (form:=form) (hB:=hB) HYes.out hsE;rw [iO] at h;exact h)
end Go.Proofs.YtadcjgopaadfjaaGreatDoor
