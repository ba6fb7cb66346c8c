import Derived.Lib.SlTrimSet
import Derived.Lib.Bytealg
import Derived.Below
import Derived.Laws.OwnMore
import Derived.Deep.Draws
import Derived.Laws.Rows
import Derived.Maps.Own
import Derived.Test.YtadcjgopaadfjaaGreatDoorQShelf
import Derived.Lib.Hide
import Derived.Deep.QuietTactic
import Derived.BigQuiet
import Derived.WalkKit
import Derived.Test.YtadcjgopaadfjaaGreatDoorProg
import Derived.OwnWalk
import Derived.Laws.IdiomStrings
import Derived.Shelf.Strings.SlTrimAscii
set_option maxHeartbeats 1000000
namespace Go.Proofs.YtadcjgopaadfjaaGreatDoor
def AG(c:UInt8):Bool:=decide (65≤c.toNat∧c.toNat≤90)
def lO(c:UInt8):UInt8:=if AG c then c+32 else c
def bV(l:List UInt8):List UInt8:=l.map lO
def tH(c:UInt8):Bool:=AG c||decide (97≤c.toNat∧c.toNat≤122)
def CO:List UInt8:=[33,35,36,37,38,39,42,43,45,46,94,95,96,124,126]
def fc(c:UInt8):Bool:=tH c||decide (48≤c.toNat∧c.toNat≤57)||CO.contains c
def fm(c:UInt8):Bool:=c==9||(decide (32≤c.toNat)&&c != 127)
def bo(l:List UInt8):Bool:= !l.isEmpty&&l.all fc
def di(l:List UInt8):Bool:=l.all fm
def ve:List UInt8:=[9,32]
def ay(l:List UInt8):List UInt8:=Lib.trimS l ve
theorem xo(c:UInt8):AG c=true↔65≤c.toNat∧c.toNat≤90:=by unfold AG;simp
theorem uG(c:UInt8):(lO c).toNat=if AG c then c.toNat+32 else c.toNat:=by
 unfold lO
 cases h:AG c
 ·rfl
 ·have:=(xo c).mp h;simp [UInt8.toNat_add];omega
theorem cJ(p:UInt8→Bool)(h:(List.range 256).all (fun n=>p (UInt8.ofNat n))=true)(c:UInt8):p c=true:=by
 have:=List.all_eq_true.mp h c.toNat (List.mem_range.mpr c.toNat_lt);simpa using this
theorem yM(c:UInt8):tH c=false→(0≤Lib.indexByte [48,49,50,51,52,53,54,55,56,57,33,35,36,37,38,39,42,43,45,46,94,95,96,124,126] c↔fc c=true):=by
 have:=cJ (fun c=>tH c||(decide (0≤Lib.indexByte [48,49,50,51,52,53,54,55,56,57,33,35,36,37,38,39,42,43,45,46,94,95,96,124,126] c)==fc c)) (by decide+kernel) c;intro h;simp only [h,Bool.false_or,beq_iff_eq] at this;rw [←this];simp
end Go.Proofs.YtadcjgopaadfjaaGreatDoor
namespace Go.Proofs.YtadcjgopaadfjaaGreatDoor
open Go.RowKit Go.Proofs
theorem gi{a b:Bool}(h:a=b):Ending.returned (.bool a)=Ending.returned (.bool b):=by rw [h]
def Bk(w:World)(g:Nat)(t:TypeId)(cs:Array Value):Prop:=w.heap[g]?=some (.cells cs t (0,0))
structure Sm (S:Nat→Prop) (w w':World):Prop where
 os:w'.os=w.os
 tape:w'.tape=w.tape
 output:w'.output=w.output
 size:w.heap.size≤w'.heap.size
 block:∀ k,k < w.heap.size→¬S k→w'.heap[k]?=w.heap[k]?
def No:Nat→Prop:=fun _=>False
section
variable {S T:Nat→Prop} {w w' w1 w2:World} {g:Nat} {t:TypeId} {cs:Array Value}
theorem Sm.refl(S:Nat→Prop)(w:World):Sm S w w:=⟨rfl,rfl,rfl,Nat.le_refl _,fun _ _ _=>rfl⟩
theorem Sm.trans(h:Sm S w w1)(k:Sm T w1 w2)(hT:∀ b,b < w.heap.size→T b→S b):Sm S w w2:=
 ⟨k.os.trans h.os,k.tape.trans h.tape,k.output.trans h.output,Nat.le_trans h.size k.size,fun b hb hS=>
  (k.block b (Nat.lt_of_lt_of_le hb h.size) (fun ht=>hS (hT b hb ht))).trans (h.block b hb hS)⟩
theorem Sm.mono(h:Sm S w w1)(hT:∀ b,b < w.heap.size→S b→T b):Sm T w w1:=
 ⟨h.os,h.tape,h.output,h.size,fun b hb hn=>h.block b hb (fun hs=>hn (hT b hb hs))⟩
theorem Sm.drew(h:Sm S w w1):Sm S w w1.drew:=⟨h.os,h.tape,h.output,h.size,h.block⟩
theorem Sm.drewN(h:Sm S w w1)(n:Nat):Sm S w (w1.drewN n):=⟨h.os,h.tape,h.output,h.size,h.block⟩
theorem Sm.alloc(h:Sm S w w1)(o:Obj):Sm S w (w1.alloc o):=
 ⟨h.os,h.tape,h.output,by have:=h.size;simp;omega,fun b hb hS=>(Below.heap_alloc w1 o b (Nat.lt_of_lt_of_le hb h.size)).trans (h.block b hb hS)⟩
theorem Sm.set(h:Sm S w w1){p:Addr}(hp:S p.block∨w.heap.size≤p.block)(u:Value):Sm S w (w1.setCell p u):=
 ⟨h.os,h.tape,h.output,by simpa using h.size,fun b hb hS=>(Below.heap_setCell w1 p u b (by
  rintro rfl;rcases hp with hp|hp
  ·exact hS hp
  ·omega)).trans (h.block b hb hS)⟩
theorem Sm.set1{g:Nat}(h:Sm (fun x=>x=g) w w1)(i:Nat)(u:Value):Sm (fun x=>x=g) w (w1.setCell ⟨g,i,none⟩ u):=h.set (Or.inl rfl) u
theorem Sm.setS{g:Nat}(h:Sm S w w1)(hg:S g)(i:Nat)(u:Value):Sm S w (w1.setCell ⟨g,i,none⟩ u):=h.set (Or.inl hg) u
theorem Sm.setN{g:Nat}(h:Sm S w w1)(hg:w.heap.size≤g)(i:Nat)(u:Value):Sm S w (w1.setCell ⟨g,i,none⟩ u):=h.set (Or.inr hg) u
theorem Sm.grown(h:Sm S w w1){row:Option Nat}(hg:w1.grownBy w2 row)(hr:∀ k,row=some k→S k∨w.heap.size≤k):Sm S w w2:=
 ⟨hg.os.trans h.os,hg.tape.trans h.tape,hg.output.trans h.output,Nat.le_trans h.size hg.size,fun b hb hS=>
  (hg.block b (Nat.lt_of_lt_of_le hb h.size) (fun e=>by
   rcases hr b e.symm with h1|h1
   ·exact hS h1
   ·omega)).trans (h.block b hb hS)⟩
theorem Sm.below(h:Sm S w w1)(hS:∀ b,b < w.heap.size→¬S b):Below w.heap.size w w1:=
 ⟨h.os,h.tape,h.output,h.size,fun b hb=>h.block b hb (hS b hb)⟩
theorem Sm.bel(h:Sm No w w1):Below w.heap.size w w1:=h.below fun _ _ hn=>hn
theorem Sm.any(h:Sm No w w1)(S:Nat→Prop):Sm S w w1:=h.mono fun _ _ hn=>hn.elim
theorem Sm.cell(h:Sm No w w1){b o:Nat}(hb:b < w.heap.size){v:Value}(hc:w.cell? ⟨b,o,none⟩=some v):w1.cell? ⟨b,o,none⟩=some v:=
 (World.cell?_of_block (w:=w) (a:=⟨b,o,none⟩) (h.block b hb (fun h=>h))).trans hc
theorem Sm.of_below(h:Below w.heap.size w w1)(S:Nat→Prop):Sm S w w1:=⟨h.os,h.tape,h.output,h.size,fun b hb _=>h.block b hb⟩
theorem Bk.lt(h:Bk w g t cs):g < w.heap.size:=by
 rcases Nat.lt_or_ge g w.heap.size with hlt|hge
 ·exact hlt
 ·unfold Bk at h;rw [Array.getElem?_eq_none hge] at h;cases h
theorem Bk.at(h:Bk w g t cs)(i:Nat){v:Value}(hv:cs[i]?=some v):w.cell? ⟨g,i,none⟩=some v:=
 (cell_of_row w g i cs t (0,0) h).trans hv
theorem Bk.fz(h:Bk w g t cs)(i:Nat):w.frozen? ⟨g,i,none⟩=false:=by
 unfold Bk at h;simp [World.frozen?,h]
theorem Bk.new(w:World)(t:TypeId)(cs:Array Value):Bk (w.alloc (.cells cs t)) w.heap.size t cs:=heap_alloc_new w _
theorem Bk.newAt(w:World)(t:TypeId)(cs:Array Value){g:Nat}(hg:g=w.heap.size):Bk (w.alloc (.cells cs t)) g t cs:=hg ▸ heap_alloc_new w _
theorem Bk.drew(h:Bk w g t cs):Bk w.drew g t cs:=h
theorem Bk.drewN(h:Bk w g t cs)(n:Nat):Bk (w.drewN n) g t cs:=h
theorem Bk.alloc(h:Bk w g t cs)(o:Obj):Bk (w.alloc o) g t cs:=(Below.heap_alloc w o g h.lt).trans h
theorem Bk.set(h:Bk w g t cs)(i:Nat)(u:Value):Bk (w.setCell ⟨g,i,none⟩ u) g t (cs.setIfInBounds i u):=by
 unfold Bk at h ⊢;simp [World.setCell,Array.getElem?_modify,h]
theorem Bk.far(h:Bk w g t cs){p:Addr}(hp:g≠p.block)(u:Value):Bk (w.setCell p u) g t cs:=(Below.heap_setCell w p u g hp).trans h
theorem Bk.sm(h:Bk w g t cs)(hs:Sm S w w')(hg:¬S g):Bk w' g t cs:=(hs.block g h.lt hg).trans h
theorem Bk.below{B:Nat}(h:Bk w g t cs)(hb:Below B w w')(hg:g < B):Bk w' g t cs:=(hb.block g hg).trans h
theorem Bk.grown{row:Option Nat}(h:Bk w g t cs)(hb:w.grownBy w' row)(hg:some g≠row):Bk w' g t cs:=(hb.block g h.lt hg).trans h
theorem Bk.eq(h:Bk w g t cs){cs':Array Value}(e:cs=cs'):Bk w g t cs':=e ▸ h
theorem vG{H:Type}{P:Program}{k:TypeId}{R:Value→Option (DataW H × List MemPlace)}{b n:Nat}{D:DataW H}(h:w.ownsMap P k R b n D)(hs:Sm S w w')(hb:¬S b):w'.ownsMap P k R b n D:=by
 have hlt:=h.lt;obtain⟨es,clock,he,F,hn,hD⟩:=h;exact⟨es,clock,(hs.block b hlt hb).trans he,F,hn,hD⟩
end
theorem aa{p:Prop}(h:p):Go.RowKit.Hid p:=h
theorem ab{a b:Prop}(x:a)(y:b):a∧b:=⟨x,y⟩
theorem ai{α:Sort _}(a:α):∃ x,a=x:=⟨a,rfl⟩
theorem Sm.tt{S:Nat→Prop}{w w1 w2:World}(h:Sm S w w1)(k:Sm S w1 w2):Sm S w w2:=h.trans k (fun _ _ e=>e)
end Go.Proofs.YtadcjgopaadfjaaGreatDoor
namespace Go.Proofs.YtadcjgopaadfjaaGreatDoor
open Go.RowKit Go.Proofs Go.Lib
theorem dU{a b:Bool}(h:a=true↔b=true):Ending.returned (.bool a)=.returned (.bool b):=by rw [Bool.eq_iff_iff.mpr h]
theorem is(c:UInt8)(w:World):Calls Tryz.prog 149 #[.int .u8 c.toNat] w fun e w'=>e=.returned (.bool (AG c))∧w=w':=by
 have hc:=c.toNat_lt;unfold AG;go_in
 go_wp2
 all_goals
  go_ret;exact⟨dU (by simp;try omega),rfl⟩
theorem qa(c:UInt8)(w:World):Calls Tryz.prog 121 #[.int .u8 c.toNat] w fun e w'=>e=.returned (.bool (tH c))∧w=w':=by
 have hc:=c.toNat_lt;unfold tH
 cases hu:AG c
 all_goals
  have HU:=aa hu;clear hu;go_in;go_wp2_with fail;refine(is c _).mono ?_;rintro e w' ⟨rfl,rfl⟩;rw [HU.out];go_wp2_with fail
  all_goals
   go_ret;exact⟨dU (by simp;try omega),rfl⟩
theorem ke(c:UInt8)(w:World):Calls Tryz.prog 116 #[.int .u8 c.toNat] w fun e w'=>e=.returned (.bool (fm c))∧w=w':=by
 have hc:=c.toNat_lt;have h9:(c==9)=decide (c.toNat=9):=by rw [Bool.eq_iff_iff];simp [←UInt8.toNat_inj]
 have h127:(c != 127)=decide (c.toNat≠127):=by rw [Bool.eq_iff_iff];simp [←UInt8.toNat_inj]
 unfold fm;rw [h9,h127];clear h9 h127;go_in
 go_wp2
 all_goals
  go_ret;exact⟨dU (by simp;try omega),rfl⟩
theorem kH(c:UInt8)(w:World):Calls Tryz.prog 120 #[.int .u8 c.toNat] w fun e w'=>e=.returned (.bool (fc c))∧w=w':=by
 have hc:=c.toNat_lt
 cases hu:tH c
 all_goals
  have HU:=aa hu;clear hu;go_in;go_wp2_with fail;refine(qa c _).mono ?_;rintro e w' ⟨rfl,rfl⟩;rw [HU.out];go_wp2_with fail
 ·refine(Tryz.strings_IndexByte _ _ _).mono ?_;rintro e w' ⟨rfl,rfl⟩;go_wp2_with fail;go_ret;refine⟨dU ?_,rfl⟩;have:=yM c HU.out;simp;exact this
 ·go_ret;refine⟨dU ?_,rfl⟩;simp [fc,HU.out]
end Go.Proofs.YtadcjgopaadfjaaGreatDoor
namespace Go.Proofs.YtadcjgopaadfjaaGreatDoor
open Go.RowKit Go.Proofs
def jQ(c:UInt8):Bool:=tH c||decide (48≤c.toNat∧c.toNat≤57)
theorem Ac(c:UInt8)(w:World):Calls Tryz.prog 151 #[.int .u8 c.toNat] w fun e w'=>e=.returned (.bool (jQ c))∧w=w':=by
 have hc:=c.toNat_lt;have hu:jQ c=true↔(97≤c.toNat∧c.toNat≤122)∨(65≤c.toNat∧c.toNat≤90)∨(48≤c.toNat∧c.toNat≤57):=by
  unfold jQ tH AG;simp;omega
 have HU:=aa hu;clear hu;generalize jQ c=b at HU;go_in
 go_wp2
 all_goals
  go_ret;exact⟨dU (by rw [HU.out];simp;try omega),rfl⟩
theorem js(c:UInt8)(w:World):Calls Tryz.prog 91 #[.int .u8 c.toNat] w fun e w'=>e=.returned (.bool (fm c))∧w=w':=by
 have hc:=c.toNat_lt;have h9:(c==9)=decide (c.toNat=9):=by rw [Bool.eq_iff_iff];simp [←UInt8.toNat_inj]
 have h127:(c != 127)=decide (c.toNat≠127):=by rw [Bool.eq_iff_iff];simp [←UInt8.toNat_inj]
 unfold fm;rw [h9,h127];clear h9 h127;go_in
 go_wp2
 all_goals
  go_ret;exact⟨dU (by simp;try omega),rfl⟩
theorem et(s:ByteArray)(k:Nat)(h:k < s.size):s.data.toList.take (k+1)=s.data.toList.take k++[s[k]]:=by
 rw [List.take_succ_eq_append_getElem (by simpa using h)];rfl
theorem iu(s:ByteArray)(k:Nat)(h:¬k < s.size):s.data.toList.take k=s.data.toList:=List.take_of_length_le (by simp;omega)
theorem fi(s:ByteArray)(k:Nat)(h:k < s.size)(p:UInt8→Bool)(hp:p s[k]=false):s.data.toList.all p=false:=by
 rw [List.all_eq_false];exact⟨s[k],by simp [ByteArray.getElem_eq_getElem_data],by simp [hp]⟩
theorem oe(s:ByteArray):(!s.data.toList.isEmpty)=decide (0 < s.size):=by
 have hl:s.data.toList.length=s.size:=by simp
 rw [←hl]
 cases s.data.toList with
 |nil=>rfl
 |cons a l=>simp
def oM(c:UInt8)(l:List UInt8):Bool:=l.contains c
theorem Fl(c:UInt8)(s:ByteArray)(hs:s.size≤9223372036854775807)(w:World):Calls Tryz.prog 152 #[.int .u8 c.toNat,.string s] w fun e w'=>e=.returned (.bool (oM c s.data.toList))∧w=w':=by
 have hc:=c.toNat_lt;go_in
 go_wp2
 go_loop [5] (fun i=>∃ k:Nat,k≤s.size∧i=.int .i64 k∧Hid (oM c (s.data.toList.take k)=false)) (fun i=>s.size-(intOf i).toNat)
 case atStart=>exact⟨0,Nat.zero_le _,rfl,aa rfl⟩
 case round=>
  obtain⟨k,hk,rfl,HK⟩:=hrel;by_cases hlt:k < s.size
  ·by_cases hq:s[k]=c
   ·have hin:oM c s.data.toList=true:=by unfold oM;rw [←hq];simp [ByteArray.getElem_eq_getElem_data]
    have HIN:=aa hin;have hq2:((s[k].toNat:Int)==(c.toNat:Int))=true:=by simp [hq]
    clear hin hq
    go_wp2
    go_ret;exact⟨by rw [HIN.out];rfl,rfl⟩
   ·have hnx:oM c (s.data.toList.take (k+1))=false:=by
     have:=HK.out;unfold oM at this ⊢;rw [et s k hlt,List.contains_eq_any_beq,List.any_append,←List.contains_eq_any_beq,this];simp;exact fun h=>hq h.symm
    have HN:=aa hnx;have hq2:((s[k].toNat:Int)==(c.toNat:Int))=false:=by
     simp;intro h;exact hq (UInt8.toNat_inj.mp (by omega))
    clear hnx hq
    go_wp2
    go_round
    case rel=>exact⟨k+1,by omega,by go_num,HN⟩
    case measure=>simp [intOf];omega
  ·have ha:=iu s k hlt
   go_wp2
   go_ret;exact⟨by have:=HK.out;rw [ha] at this;rw [this];rfl,rfl⟩
theorem yA(c:UInt8):fc c=(jQ c||oM c CO):=rfl
theorem jh(c:UInt8)(w:World):Calls Tryz.prog 124 #[.int .u8 c.toNat] w fun e w'=>e=.returned (.bool (fc c))∧w=w':=by
 rw [yA]
 cases hu:jQ c
 all_goals
  have HU:=aa hu;clear hu;go_in;go_wp2_with fail;refine(Ac c _).mono ?_;rintro e w' ⟨rfl,rfl⟩;rw [HU.out];go_wp2_with fail
 ·refine(Fl c _ (by decide) _).mono ?_;rintro e w' ⟨rfl,rfl⟩;go_wp2_with fail;go_ret;exact⟨by simp [CO],rfl⟩
 ·go_ret;exact⟨by simp,rfl⟩
theorem pZ(s:ByteArray)(hs:s.size≤9223372036854775807)(w:World):Calls Tryz.prog 93 #[.string s] w fun e w'=>e=.returned (.bool (bo s.data.toList))∧w=w':=by
 go_in
 go_wp2
 go_loop [3] (fun i=>∃ k:Nat,k≤s.size∧i=.int .i64 k∧Hid ((s.data.toList.take k).all fc=true)) (fun i=>s.size-(intOf i).toNat)
 case atStart=>exact⟨0,Nat.zero_le _,rfl,aa rfl⟩
 case round=>
  obtain⟨k,hk,rfl,HK⟩:=hrel;by_cases hlt:k < s.size
  ·cases hq:fc s[k]
   ·have hall:bo s.data.toList=false:=by unfold bo;rw [fi s k hlt fc hq];simp
    have HA:=aa hall;have HQ:=aa hq;clear hall hq;go_wp2_with fail;refine(jh _ _).mono ?_;rintro e w' ⟨rfl,rfl⟩;rw [HQ.out];go_wp2_with fail;go_ret;exact⟨by rw [HA.out];rfl,rfl⟩
   ·have hnx:(s.data.toList.take (k+1)).all fc=true:=by
     rw [et s k hlt,List.all_append,HK.out];simp [hq]
    have HN:=aa hnx;have HQ:=aa hq;clear hnx hq;go_wp2_with fail;refine(jh _ _).mono ?_;rintro e w' ⟨rfl,rfl⟩;rw [HQ.out];go_wp2_with fail
    go_round
    case rel=>exact⟨k+1,by omega,by go_num,HN⟩
    case measure=>simp [intOf];omega
  ·have ha:=iu s k hlt;have H2:bo s.data.toList=decide (0 < s.size):=by
    unfold bo;have:=HK.out;rw [ha] at this;rw [this,Bool.and_true];exact oe s
   have HA:=aa H2;clear H2 ha
   go_wp2
   go_ret;exact⟨by rw [HA.out];rfl,rfl⟩
theorem pP(s:ByteArray)(hs:s.size≤9223372036854775807)(w:World):Calls Tryz.prog 61 #[.string s] w fun e w'=>e=.returned (.bool (di s.data.toList))∧w=w':=by
 go_in
 go_wp2
 go_loop [3] (fun i=>∃ k:Nat,k≤s.size∧i=.int .i64 k∧Hid ((s.data.toList.take k).all fm=true)) (fun i=>s.size-(intOf i).toNat)
 case atStart=>exact⟨0,Nat.zero_le _,rfl,aa rfl⟩
 case round=>
  obtain⟨k,hk,rfl,HK⟩:=hrel;by_cases hlt:k < s.size
  ·cases hq:fm s[k]
   ·have hall:di s.data.toList=false:=fi s k hlt fm hq;have HA:=aa hall;have HQ:=aa hq;clear hall hq;go_wp2_with fail;refine(js _ _).mono ?_;rintro e w' ⟨rfl,rfl⟩;rw [HQ.out];go_wp2_with fail;go_ret;exact⟨by rw [HA.out];rfl,rfl⟩
   ·have hnx:(s.data.toList.take (k+1)).all fm=true:=by
     rw [et s k hlt,List.all_append,HK.out];simp [hq]
    have HN:=aa hnx;have HQ:=aa hq;clear hnx hq;go_wp2_with fail;refine(js _ _).mono ?_;rintro e w' ⟨rfl,rfl⟩;rw [HQ.out];go_wp2_with fail
    go_round
    case rel=>exact⟨k+1,by omega,by go_num,HN⟩
    case measure=>simp [intOf];omega
  ·have ha:=iu s k hlt;have H2:di s.data.toList=true:=by
    unfold di;have:=HK.out;rw [ha] at this;exact this
   have HA:=aa H2;clear H2 ha
   go_wp2
   go_ret;exact⟨by rw [HA.out];rfl,rfl⟩
def sL(p:UInt8→Bool)(l:List UInt8):Bool:=l.all p
def CZ(s:ByteArray)(p:UInt8→Bool)(i:Value):Prop:=∃ k:Nat,k≤s.size∧i=.int .i64 k∧Hid ((s.data.toList.take k).all p=true)
theorem zY(s:ByteArray)(hs:s.size≤9223372036854775807)(w:World):Calls Tryz.prog 115 #[.string s,.func (.func 120) #[] #[]] w fun e w'=>e=.returned (.bool (sL fc s.data.toList))∧w=w':=by
 go_in
 go_wp2
 go_loop [8] (fun i=>CZ s fc i) (fun i=>s.size-(intOf i).toNat)
 case atStart=>exact⟨0,Nat.zero_le _,rfl,aa rfl⟩
 case round=>
  obtain⟨k,hk,rfl,HK⟩:=hrel;by_cases hlt:k < s.size
  ·cases hq:fc s[k]
   ·have HA:=aa (show sL fc s.data.toList=false from fi s k hlt fc hq);have HQ:=aa hq;clear hq;go_wp2_with fail;refine(kH _ _).mono ?_;rintro e w' ⟨rfl,rfl⟩;rw [HQ.out];go_wp2_with fail;go_ret;exact⟨by rw [HA.out];rfl,rfl⟩
   ·have hnx:(s.data.toList.take (k+1)).all fc=true:=by
     rw [et s k hlt,List.all_append,HK.out];simp [hq]
    have HN:=aa hnx;have HQ:=aa hq;clear hnx hq;go_wp2_with fail;refine(kH _ _).mono ?_;rintro e w' ⟨rfl,rfl⟩;rw [HQ.out];go_wp2_with fail
    go_round
    case rel=>exact⟨k+1,by omega,by go_num,HN⟩
    case measure=>simp [intOf];omega
  ·have ha:=iu s k hlt;have H2:sL fc s.data.toList=true:=by have:=HK.out;rw [ha] at this;exact this
   have HA:=aa H2;clear H2 ha
   go_wp2
   go_ret;exact⟨by rw [HA.out];rfl,rfl⟩
theorem Af(s:ByteArray)(hs:s.size≤9223372036854775807)(w:World):Calls Tryz.prog 115 #[.string s,.func (.func 116) #[] #[]] w fun e w'=>e=.returned (.bool (sL fm s.data.toList))∧w=w':=by
 go_in
 go_wp2
 go_loop [8] (fun i=>CZ s fm i) (fun i=>s.size-(intOf i).toNat)
 case atStart=>exact⟨0,Nat.zero_le _,rfl,aa rfl⟩
 case round=>
  obtain⟨k,hk,rfl,HK⟩:=hrel;by_cases hlt:k < s.size
  ·cases hq:fm s[k]
   ·have HA:=aa (show sL fm s.data.toList=false from fi s k hlt fm hq);have HQ:=aa hq;clear hq;go_wp2_with fail;refine(ke _ _).mono ?_;rintro e w' ⟨rfl,rfl⟩;rw [HQ.out];go_wp2_with fail;go_ret;exact⟨by rw [HA.out];rfl,rfl⟩
   ·have hnx:(s.data.toList.take (k+1)).all fm=true:=by
     rw [et s k hlt,List.all_append,HK.out];simp [hq]
    have HN:=aa hnx;have HQ:=aa hq;clear hnx hq;go_wp2_with fail;refine(ke _ _).mono ?_;rintro e w' ⟨rfl,rfl⟩;rw [HQ.out];go_wp2_with fail
    go_round
    case rel=>exact⟨k+1,by omega,by go_num,HN⟩
    case measure=>simp [intOf];omega
  ·have ha:=iu s k hlt;have H2:sL fm s.data.toList=true:=by have:=HK.out;rw [ha] at this;exact this
   have HA:=aa H2;clear H2 ha
   go_wp2
   go_ret;exact⟨by rw [HA.out];rfl,rfl⟩
theorem lC(s:ByteArray)(hs:s.size≤9223372036854775807)(w:World):Calls Tryz.prog 80 #[.string s] w fun e w'=>e=.returned (.bool (di s.data.toList))∧w=w':=by
 go_in;go_wp2_with fail;refine(Af _ hs _).mono ?_;rintro e w' ⟨rfl,rfl⟩;go_wp2_with fail;go_ret;exact⟨rfl,rfl⟩
theorem rE(s:ByteArray)(hs:s.size≤9223372036854775807)(w:World):Calls Tryz.prog 85 #[.string s] w fun e w'=>e=.returned (.bool (bo s.data.toList))∧w=w':=by
 cases hn:s.data.toList with
 |nil=>
  have h1:s.toList=[]:=by rw [Go.ByteArray.toList_eq];exact hn
  have h2:s.toList.isEmpty=true:=by rw [h1];rfl
  go_in;go_wp2_with fail;go_ret;exact⟨rfl,rfl⟩
 |cons a l=>
  have h1:¬s.toList=[]:=by rw [Go.ByteArray.toList_eq,hn];simp
  have h2:s.toList.isEmpty=false:=by rw [Go.ByteArray.toList_eq,hn];rfl
  have h3:bo (a::l)=sL fc s.data.toList:=by rw [hn];simp [bo,sL]
  rw [h3];clear h3 hn;go_in;go_wp2_with fail;refine(zY s hs _).mono ?_;rintro e w' ⟨rfl,rfl⟩;go_wp2_with fail;go_ret;exact⟨rfl,rfl⟩
section
variable {P:Program}
theorem bj {ops:Array Oper} {rest:List Oper} {o:Oper} {a:Act} {w:World} {Q:Exit→Act→World→Prop} (hgd:o.guard=none) (ty:TypeId) (x:Operand) (ho:o.op=.load ty x)
 {fs:Array Field} (hu:P.underlying ty=some (.struct fs)) (n:Nat) (hi:(P.info? ty).map (·.size)=some n)
 (g:Nat) (hx:a.eval x=.pointer (some ⟨g,0,none⟩)) {t:TypeId} (cs:Array Value) (hb:Bk w g t cs) (hn:cs.size=n)
 (h:wpList P ops Q rest (a.put o.dst (.agg cs)) w):wpList P ops Q (o::rest) a w:=
 wpList_load_row hgd ty x ho g hx t cs (0,0) (.struct fs) hb hu rfl (by rw [hi,hn]) h
theorem vE(w:World)(old cells:Array Value)(t:TypeId)(g:Nat)(hg:g=w.heap.size):(w.alloc (.cells old t)).setRow g cells=w.alloc (.cells cells t):=by
 subst hg;unfold World.setRow World.alloc;congr 1;apply Array.ext
 ·simp
 ·intro i h1 h2;simp only [Array.size_push] at h2;by_cases hi:i < w.heap.size
  ·simp [Array.getElem_modify,Array.getElem_push,hi,show ¬(w.heap.size=i) by omega]
  ·have e:i=w.heap.size:=by omega
   subst e;simp [Array.getElem_modify]
theorem kS {ops:Array Oper} {rest:List Oper} {o:Oper} {a:Act} {w:World} {Q:Exit→Act→World→Prop} (hgd:o.guard=none) (ty:TypeId) (x y:Operand) (ho:o.op=.store ty x y)
 (n:Nat) (hi:(P.info? ty).map (·.size)=some n)
 (g:Nat) (hx:a.eval x=.pointer (some ⟨g,0,none⟩)) (cells:Array Value) (hy:a.eval y=.agg cells) (hn:cells.size=n) (h1:cells.all (·.oneCell')=true)
 {t:TypeId} {old:Array Value} (ho':old.size=n) (hg:g=w.heap.size)
 (h:wpList P ops Q rest (a.put o.dst undef) (w.alloc (.cells cells t))):wpList P ops Q (o::rest) a (w.alloc (.cells old t)):=
 wpList_plain hgd fun _ hK=>wp_store_row ty x y ho g cells hx hy t old (by subst hg;exact heap_alloc_new w _) (by rw [hi,hn]) (by omega) h1
  (by rw [vE w old cells t g hg];exact hK _ _ h)
theorem vp {fn:Func} {p:Tmp} {ty:TypeId} (h:fn.results=#[.cell p ty]) (tmps:Array Value) {w:World} (g:Nat) {t:TypeId} {cs:Array Value} {fs:Array Field}
 (hp:tmps.getD p undef=.pointer (some ⟨g,0,none⟩)) (hb:Bk w g t cs) (hu:P.underlying ty=some (.struct fs)) {n:Nat} (hi:(P.info? ty).map (·.size)=some n) (hn:cs.size=n):
 (results fn tmps).run P w=.ok (.agg cs) w:=
 results_cell_row h tmps w g t cs (0,0) (.struct fs) hp hb hu rfl (by rw [hi,hn])
end
def By(w:World)(g:Nat)(l:List UInt8):Prop:=
 g < w.heap.size∧∀ j c,l[j]?=some c→w.cell? ⟨g,j,none⟩=some (.int .u8 c.toNat)∧w.frozen? ⟨g,j,none⟩=false
section
variable {S:Nat→Prop} {w w':World} {g:Nat} {l:List UInt8}
theorem By.sm(h:By w g l)(hs:Sm S w w')(hg:¬S g):By w' g l:=by
 refine⟨Nat.lt_of_lt_of_le h.1 hs.size,fun j c hj=> ?_⟩;obtain⟨h1,h2⟩:=h.2 j c hj;have hb:=hs.block g h.1 hg;exact⟨(World.cell?_of_block (w:=w) (a:=⟨g,j,none⟩) hb).trans h1,by
  have:w'.frozen? ⟨g,j,none⟩=w.frozen? ⟨g,j,none⟩:=by unfold World.frozen?;rw [hb]
  rw [this];exact h2⟩
theorem By.drew(h:By w g l):By w.drew g l:=h
theorem By.drewN(h:By w g l)(n:Nat):By (w.drewN n) g l:=h
theorem By.alloc(h:By w g l)(o:Obj):By (w.alloc o) g l:=h.sm ((Sm.refl No w).alloc o) (fun h=>h)
theorem By.at(h:By w g l){j:Nat}{c:UInt8}(hj:l[j]?=some c):w.cell? ⟨g,j,none⟩=some (.int .u8 c.toNat):=(h.2 j c hj).1
theorem By.fz(h:By w g l){j:Nat}(hj:j < l.length):w.frozen? ⟨g,j,none⟩=false:=(h.2 j l[j] (by simp [hj])).2
theorem By.set(h:By w g l)(i:Nat)(hi:i < l.length)(c:UInt8):By (w.setCell ⟨g,i,none⟩ (.int .u8 c.toNat)) g (l.set i c):=by
 refine⟨by simpa using h.1,fun j d hj=> ?_⟩;by_cases e:i=j
 ·subst e;rw [List.getElem?_set_self hi] at hj;obtain rfl:c=d:=by simpa using hj
  obtain⟨h1,h2⟩:=h.2 i l[i] (by simp [hi]);refine⟨?_,?_⟩
  ·exact World.cell?_setCell_same w _ _ h1
  ·rw [World.frozen?_setCell];exact h2
 ·rw [List.getElem?_set_ne e] at hj;obtain⟨h1,h2⟩:=h.2 j d hj;refine⟨?_,?_⟩
  ·rw [World.cell?_setCell_other w _ _ _ (by simp)];exact h1
  ·rw [World.frozen?_setCell];exact h2
end
section
variable {P:Program} {ops:Array Oper} {rest:List Oper} {o:Oper} {a:Act} {w:World} {Q:Exit→Act→World→Prop}
theorem lP (hgd:o.guard=none) (src dst e:TypeId) (x:Operand) (ho:o.op=.convert src dst x) (s:ByteArray) (hx:a.eval x=.string s)
 (hs:P.underlying src=some .string) (hd:P.underlying dst=some (.slice e)) (he:P.underlying e=some (.int .u8))
 (h:∀ (cap:Nat) w',By w' w.heap.size s.data.toList→s.size≤cap→Sm No w w'→w'.heap.size=w.heap.size+1→wpList P ops Q rest (a.put o.dst (.slice (some ⟨w.heap.size,0,none⟩) s.size cap)) w'):wpList P ops Q (o::rest) a w:=by
 refine wpList_plain hgd fun _ hK=> ?_;unfold Oper.wp execOp;simp only [ho,hx,Sem.run_bind,Sem.run_pure,run_bytes_of_string w src dst e s hs hd he,Result.andThen_ok];refine hK _ _ (h _ _ ⟨by simp,fun j c hj=>⟨?_,?_⟩⟩ ?_ ?_ (by simp))
 ·have hj':j < s.data.size:=by
   have:=List.getElem?_eq_some_iff.mp hj;simpa using this.1
  refine(World.cell?_alloc_mark w.drew _ e _ j).trans ?_;rw [bytesRow_at s _ j hj'];have:s.data[j]=c:=by
   have:=(List.getElem?_eq_some_iff.mp hj).2;simpa using this
  rw [this]
 ·have hj':j < s.data.size:=by
   have:=List.getElem?_eq_some_iff.mp hj;simpa using this.1
  refine(World.frozen?_alloc_mark w.drew _ e _ _ j).trans ?_;have:¬(bytesRow s (grownCap w s.size 0 e)).size≤j:=by
   have hsz:s.size=s.data.size:=rfl;simp only [bytesRow,Array.size_append,Array.size_map,Array.size_replicate];omega
  simp [this]
 ·exact grownCap_ge w s.size 0 e
 ·exact((Sm.refl No w).drew).alloc _
theorem aV (hgd:o.guard=none) (src dst e:TypeId) (x:Operand) (ho:o.op=.convert src dst x) (g n cap:Nat) (l:List UInt8) (hx:a.eval x=.slice (some ⟨g,0,none⟩) n cap)
 (hs:P.underlying src=some (.slice e)) (he:P.underlying e=some (.int .u8)) (hd:P.underlying dst=some .string) (hb:By w g l) (hn:l.length=n)
 (h:wpList P ops Q rest (a.put o.dst (.string ⟨l.toArray⟩)) w):wpList P ops Q (o::rest) a w:=by
 subst hn;refine wpList_plain hgd fun _ hK=> ?_;unfold Oper.wp execOp;simp only [ho,hx,Sem.run_bind,Sem.run_pure,run_convert_bytes_back w src dst e ⟨g,0,none⟩ cap l hs he hd (fun j hj=>by
  have e:(⟨g,0,none⟩:Addr).add j=⟨g,j,none⟩:=by unfold Addr.add;split<;>simp_all
  rw [e];exact hb.at (by simp [hj])),Result.andThen_ok]
 exact hK _ _ h
theorem ki (hgd:o.guard=none) (t e:TypeId) (x y:Operand) (ho:o.op=.makeSlice t x y) (n:Nat) (hx:a.eval x=.int .i64 n) (hy:a.eval y=.int .i64 n)
 (ht:P.underlying t=some (.slice e)) (hi:(P.info? e).map (fun i=>(i.zero,i.size,i.bytes))=some (some (.int .u8 0),1,1)) (hn:n≤1000000)
 (h:∀ w',By w' w.heap.size (List.replicate n 0)→Sm No w w'→w'.heap.size=w.heap.size+1→wpList P ops Q rest (a.put o.dst (.slice (some ⟨w.heap.size,0,none⟩) n n)) w'):wpList P ops Q (o::rest) a w:=by
 obtain⟨i0,h0,h1,h2,h3⟩:=info_parts hi;have hr:=run_make (P:=P) w t e i0 (.int .u8 0) ht h0 h1 .i64 .i64 n n (by omega) (Int.le_refl _) (by rw [h3];omega) (by omega);simp only [Int.toNat_natCast,h2,Nat.mul_one] at hr;refine wpList_plain hgd fun _ hK=> ?_;unfold Oper.wp execOp;simp only [ho,hx,hy,Sem.run_bind,Sem.run_pure,hr,Result.andThen_ok];have hb:=Bk.new w e (madeCells #[.int .u8 0] n);refine hK _ _ (h _ ⟨by simp,fun j c hj=> ?_⟩ ((Sm.refl No w).alloc _) (by simp));have hj':j < n:=by
  have:=(List.getElem?_eq_some_iff.mp hj).1;simpa using this
 obtain rfl:0=c:=by simpa [hj'] using hj
 exact⟨hb.at j (by simp [madeCells,hj',Nat.mod_one]),hb.fz j⟩
end
def kC(l:List UInt8)(k:Nat):List UInt8:=bV (l.take k)++l.drop k
theorem zz(l:List UInt8):kC l 0=l:=by simp [kC,bV]
theorem mH(l:List UInt8)(k:Nat)(h:k≤l.length):(kC l k).length=l.length:=by simp [kC,bV];omega
theorem BC(l:List UInt8)(k:Nat)(h:l.length≤k):kC l k=bV l:=by simp [kC,List.take_of_length_le h,List.drop_eq_nil_of_le h]
theorem xg(l:List UInt8)(k:Nat)(h:k < l.length):(kC l k)[k]?=some l[k]:=by
 unfold kC bV;have e:min k l.length=k:=by omega
 rw [List.getElem?_append_right (by simp;omega)];simp [e,h]
theorem so(l:List UInt8)(k:Nat)(h:k < l.length):(kC l k).set k (lO l[k])=kC l (k+1):=by
 have e:l.drop k=l[k]::l.drop (k+1):=List.drop_eq_getElem_cons h;unfold kC bV;have e4:k-(List.map lO (List.take k l)).length=0:=by simp;omega
 rw [e,List.set_append_right _ _ (by simp;omega),List.take_succ_eq_append_getElem h,List.map_append,e4];simp only [List.set_cons_zero,List.map_cons,List.map_nil,List.append_assoc,List.singleton_append]
theorem zV(l:List UInt8)(k:Nat)(h:k < l.length)(hu:AG l[k]=false):kC l k=kC l (k+1):=by
 rw [←so l k h];have e:lO l[k]=l[k]:=by simp [lO,hu]
 rw [e];have:=xg l k h;apply List.ext_getElem?;intro i;rw [List.getElem?_set];split
 ·rename_i hi;subst hi;rw [this];have:=mH l k (by omega);simp;omega
 ·rfl
def Fy(s:ByteArray)(w:World)(g:Nat)(i:Value)(wr:World):Prop:=∃ k:Nat,k≤s.size∧i=.int .i64 k∧By wr g (kC s.data.toList k)∧Sm No w wr
theorem iV(s:ByteArray)(hs:s.size≤1000000)(w:World):Calls Tryz.prog 184 #[.string s] w fun e w'=>e=.returned (.string ⟨(bV s.data.toList).toArray⟩)∧Sm No w w':=by
 have hl:s.data.toList.length=s.size:=by simp
 have HL:=aa hl;clear hl;go_in;go_wp2_with (refine lP rfl 9 34 5 _ rfl s rfl Tryz.underlying9 Tryz.underlying34 Tryz.underlying5 fun cap w1 hb hcap hs1 hz=> ?_);have HB:=aa hb;have HS:=aa hs1;clear hb hs1 hz
 go_loopw [10] (fun i wr=>Fy s w w.heap.size i wr) (fun i _=>s.size-(intOf i).toNat)
 case atStart=>exact⟨0,Nat.zero_le _,rfl,by rw [zz];exact HB.out,HS.out⟩
 case round=>
  obtain⟨k,hk,rfl,hb,hsm⟩:=hrel;by_cases hlt:k < s.size
  ·have hlt2:k < s.data.toList.length:=by rw [HL.out];exact hlt
   obtain⟨c,hcd⟩:=ai (s.data.toList[k]);have hx:=xg s.data.toList k hlt2;rw [hcd] at hx;have hc:=hb.at hx;have hf:=hb.fz (j:=k) (by rw [mH _ _ (by omega)];exact hlt2);have hset:=so s.data.toList k hlt2;have hsame:=zV s.data.toList k hlt2;rw [hcd] at hset hsame;have h256:=c.toNat_lt;have HC:=aa hcd;have HX:=aa hx;clear hcd hx
   cases hu:AG c
   ·have H2:=aa (hsame hu);have HU:=aa hu;clear hset hsame hu;go_wp2_with fail;refine(is c _).mono ?_;rintro e w' ⟨rfl,rfl⟩;rw [HU.out];go_wp2_with fail;exact⟨⟨k+1,by omega,by go_num,by rw [←H2.out];exact hb,hsm⟩,by simp [intOf];omega⟩
   ·have H2:=aa hset;have HU:=aa hu;obtain⟨hu1,hu2⟩:=(xo c).mp hu;have H3:=aa (uG c);have H4:=aa (hb.set k (by rw [mH _ _ (by omega)];exact hlt2) (lO c));clear hset hsame hu;go_wp2_with fail;refine(is c _).mono ?_;rintro e w' ⟨rfl,rfl⟩;rw [HU.out];go_wp2_with fail;have hv:((lO c).toNat:Int)=c.toNat+97-65:=by rw [H3.out,HU.out];simp;omega
    exact⟨⟨k+1,by omega,by go_num,by rw [←H2.out,←hv];exact H4.out,hsm.setN (Nat.le_refl _) _ _⟩,by simp [intOf];omega⟩
  ·have hb2:=hb;rw [BC _ _ (by rw [HL.out];omega)] at hb2;have HB2:=aa hb2;clear hb2;go_wp2_with (refine aV rfl 34 9 5 _ rfl w.heap.size s.size cap _ rfl Tryz.underlying34 Tryz.underlying5 Tryz.underlying9 HB2.out (by simp [bV]) ?_);go_ret;exact⟨rfl,hsm⟩
theorem fC:(Tryz.prog.info? 5).map (fun i=>(i.zero,i.size,i.bytes))=some (some (.int .u8 0),1,1):=by kernel_rfl
end Go.Proofs.YtadcjgopaadfjaaGreatDoor
namespace Go.Proofs.YtadcjgopaadfjaaGreatDoor
open Go.RowKit Go.Proofs Go.Shelf
def dp(l m:List UInt8):Bool:=bV l==bV m
theorem sJ(s t:ByteArray)(hs:s.size≤1000000)(ht:t.size≤1000000)(w:World):Calls Tryz.prog 165 #[.string s,.string t] w fun e w'=>e=.returned (.bool (dp s.data.toList t.data.toList))∧Sm No w w':=by
 unfold dp;generalize hx:bV s.data.toList=x;generalize hy:bV t.data.toList=y;have HX:=aa hx;have HY:=aa hy;clear hx hy;go_in;go_wp2_with fail;refine(iV s hs _).mono ?_;rintro e w1 ⟨rfl,hs1⟩;rw [HX.out];go_wp2_with fail;refine(iV t ht _).mono ?_;rintro e w2 ⟨rfl,hs2⟩;rw [HY.out];go_wp2_with fail;go_ret;exact⟨dU (by simp),hs1.tt hs2⟩
theorem mI(s:ByteArray)(hs:s.size≤9223372036854775807)(w:World):Calls Tryz.prog 81 #[.string s] w fun e w'=>e=.returned (.string ⟨(ay s.data.toList).toArray⟩)∧Sm No w w':=by
 have hcon:=fun (w:World)=>Any.strings_Trim_laid Tryz.lays160 (by kernel_rfl) s ⟨#[9,32]⟩ w hs (by decide) (ascii_of_all (by decide))
 change ∀ w,Calls Tryz.prog 117 _ _ (fun e w'=>e=.returned (.string ⟨(ay s.data.toList).toArray⟩)∧Below w.heap.size w w') at hcon
 generalize (⟨(ay s.data.toList).toArray⟩:ByteArray)=r at hcon ⊢;go_in;go_wp2_with fail;refine(hcon _).mono ?_;rintro e w' ⟨rfl,hB⟩;go_wp2_with fail;go_ret;exact⟨rfl,Sm.of_below hB No⟩
end Go.Proofs.YtadcjgopaadfjaaGreatDoor
namespace Go.Proofs.YtadcjgopaadfjaaGreatDoor
open Go.RowKit Go.Proofs
def io(c:UInt8):Bool:=c==9||c==32
def aQ(l:List UInt8):List UInt8:=l.dropWhile io
def dh(l:List UInt8):List UInt8:=(l.reverse.dropWhile io).reverse
theorem mK(c:UInt8)(l:List UInt8):dh (c::l)=if dh l=[]∧io c=true then [] else c::dh l:=by
 unfold dh;rw [List.reverse_cons,List.dropWhile_append];by_cases h:List.dropWhile io l.reverse=[]
 ·simp only [h,List.isEmpty_nil,if_true,List.reverse_nil,true_and]
  cases hc:io c<;>simp [List.dropWhile,hc]
 ·have h2:(List.dropWhile io l.reverse).isEmpty=false:=by simpa using h
  have h3:¬((List.dropWhile io l.reverse).reverse=[]∧io c=true):=fun h4=>h (by simpa using h4.1);rw [if_neg h3];simp [h2]
theorem pD(l:List UInt8):aQ (dh l)=dh (aQ l):=by
 induction l with
 |nil=>rfl
 |cons c l ih=>
  rw [mK]
  cases hc:io c
  ·simp [aQ,hc,mK]
  ·have e:aQ (c::l)=aQ l:=by simp [aQ,hc]
   rw [e,←ih];split
   ·rename_i h;rw [h.1]
   ·simp [aQ,hc]
theorem it(l:List UInt8):ay l=dh (aQ l):=by
 have e:(fun c=>ve.contains c)=io:=by
  funext c
  have:=cJ (fun c=>ve.contains c==io c) (by decide+kernel) c;simpa using this
 unfold ay Lib.trimS Lib.trimLeftS Lib.trimRightS;rw [e];exact pD l
theorem mF(l:List UInt8)(c:UInt8):dh (l++[c])=if io c=true then dh l else l++[c]:=by
 unfold dh;rw [List.reverse_append]
 cases hc:io c<;>simp [hc]
def AZ(s:ByteArray)(v:Value):Prop:=∃ t:ByteArray,v=.string t∧t.size≤s.size∧aQ t.data.toList=aQ s.data.toList
def AJ(s:ByteArray)(v:Value):Prop:=∃ t:ByteArray,v=.string t∧t.size≤s.size∧dh t.data.toList=ay s.data.toList
def iq(v:Value):Nat:=match v with| .string t=>t.size|_=>0
theorem mZ(t:ByteArray)(h:0 < t.size):∃ l,t.data.toList=t[0]::l:=by
 obtain⟨⟨l⟩⟩:=t
 cases l with
 |nil=>exact absurd h (Nat.lt_irrefl 0)
 |cons a l=>exact⟨l,rfl⟩
theorem oI(t:ByteArray)(h:0 < t.size):∃ l,t.data.toList=l++[t[t.size-1]]:=by
 have hl:t.data.toList.length=t.size:=by simp
 refine⟨t.data.toList.dropLast,?_⟩;have hne:t.data.toList≠[]:=by intro e;rw [e] at hl;simp at hl;omega
 have:=(List.dropLast_concat_getLast hne).symm;rw [this];congr 2;rw [List.getLast_eq_getElem];simp [ByteArray.getElem_eq_getElem_data]
theorem mc(c:UInt8):io c=true↔c.toNat=9∨c.toNat=32:=by
 unfold io;simp [←UInt8.toNat_inj]
theorem zv(t:ByteArray)(c:UInt8)(m:List UInt8)(hm:t.data.toList=c::m):(t.extract 1 t.size).data.toList=m:=by
 have hl:t.data.toList.length=t.size:=by simp
 rw [Lib.extract_data,hm];rw [hm] at hl;simp at hl;simp [List.take_of_length_le,←hl]
theorem yN(t:ByteArray)(c:UInt8)(m:List UInt8)(hm:t.data.toList=m++[c]):(t.extract 0 (t.size-1)).data.toList=m:=by
 have hl:t.data.toList.length=t.size:=by simp
 rw [Lib.extract_data,hm];rw [hm] at hl;simp at hl;simp [←hl]
theorem yd(s:ByteArray)(hs:s.size≤9223372036854775807)(w:World):Calls Tryz.prog 62 #[.string s] w fun e w'=>e=.returned (.string ⟨(ay s.data.toList).toArray⟩)∧w=w':=by
 go_in;go_wp2_with fail
 go_loop [0] (fun v=>AZ s v) (fun v=>iq v)
 case atStart=>exact⟨s,rfl,Nat.le_refl _,rfl⟩
 case round=>
  obtain⟨t,rfl,ht,hd⟩:=hrel;have HD:=aa hd;clear hd;by_cases hgo:0 < t.size∧(t[0]?.map io)=some true
  ·obtain⟨h0,hq⟩:=hgo;have hq':io t[0]=true:=by simpa [h0] using hq
   obtain⟨m,hm⟩:=mZ t h0;have hq2:=(mc t[0]).mp hq';have HN:=aa (show aQ (t.extract 1 t.size).data.toList=aQ s.data.toList by
    rw [←HD.out,zv t _ m hm,hm];simp [aQ,hq'])
   clear hq hq' hm;by_cases h9:t[0].toNat=9
   ·have g1:((t[0].toNat:Int)==9)=true:=by simp [h9]
    clear hq2 h9;go_wp2_with fail;exact⟨⟨t.extract 1 t.size,rfl,by simp;omega,HN.out⟩,by simp [iq];omega⟩
   ·have g1:((t[0].toNat:Int)==9)=false:=by simp;omega
    have g2:((t[0].toNat:Int)==32)=true:=by simp;omega
    clear hq2 h9;go_wp2_with fail;exact⟨⟨t.extract 1 t.size,rfl,by simp;omega,HN.out⟩,by simp [iq];omega⟩
  ·have hT:t.data.toList=aQ s.data.toList:=by
    rw [←HD.out];by_cases h0:0 < t.size
    ·obtain⟨m,hm⟩:=mZ t h0;have:io t[0]=false:=by
      cases hq:io t[0]
      ·rfl
      ·exact absurd ⟨h0,by simp [h0,hq]⟩ hgo
     rw [hm];simp [aQ,this]
    ·have hl:t.data.toList.length=t.size:=by simp
     have:t.data.toList=[]:=List.eq_nil_of_length_eq_zero (by omega);rw [this];rfl
   have HT:=aa (show dh t.data.toList=ay s.data.toList by rw [hT,it]);clear hT;by_cases h0:0 < t.size
   case' pos=>
    have hq:io t[0]=false:=by
     cases hq:io t[0]
     ·rfl
     ·exact absurd ⟨h0,by simp [h0,hq]⟩ hgo
    have hbl:=mc t[0];rw [hq] at hbl;have g1:((t[0].toNat:Int)==9)=false:=by simp;intro h;have:=hbl.mpr (Or.inl (by omega));cases this
    have g2:((t[0].toNat:Int)==32)=false:=by simp;intro h;have:=hbl.mpr (Or.inr (by omega));cases this
    clear hq hbl
   all_goals
    clear hgo;go_wp2_with fail
    go_loop [0] (fun v=>AJ s v) (fun v=>iq v)
    case atStart=>exact⟨t,rfl,ht,HT.out⟩
    case round=>
     obtain⟨t,rfl,ht,hd⟩:=hrel;have HD:=aa hd;clear hd;by_cases hgo:0 < t.size∧(t[t.size-1]?.map io)=some true
     ·obtain⟨h0,hq⟩:=hgo;have hq':io t[t.size-1]=true:=by
       rw [getElem?_pos t (t.size-1) (by omega)] at hq;simpa using hq
      obtain⟨m,hm⟩:=oI t h0;have hq2:=(mc t[t.size-1]).mp hq';have HN:=aa (show dh (t.extract 0 (t.size-1)).data.toList=ay s.data.toList by
       rw [←HD.out,yN t _ m hm,hm,mF];simp [hq'])
      clear hq hq' hm;have e1:(t.size:Int)-1=((t.size-1:Nat):Int):=by omega
      by_cases h9:t[t.size-1].toNat=9
      ·have g1:((t[t.size-1].toNat:Int)==9)=true:=by simp [h9]
       clear hq2 h9;go_wp2_with fail;exact⟨⟨t.extract 0 (t.size-1),rfl,by simp;omega,HN.out⟩,by simp [iq];omega⟩
      ·have g1:((t[t.size-1].toNat:Int)==9)=false:=by simp;omega
       have g2:((t[t.size-1].toNat:Int)==32)=true:=by simp;omega
       clear hq2 h9;go_wp2_with fail;exact⟨⟨t.extract 0 (t.size-1),rfl,by simp;omega,HN.out⟩,by simp [iq];omega⟩
     ·have hT:t.data.toList=ay s.data.toList:=by
       rw [←HD.out];by_cases h0:0 < t.size
       ·obtain⟨m,hm⟩:=oI t h0;have:io t[t.size-1]=false:=by
         cases hq:io t[t.size-1]
         ·rfl
         ·exact absurd ⟨h0,by rw [getElem?_pos t (t.size-1) (by omega)];simp [hq]⟩ hgo
        rw [hm,mF];simp [this]
       ·have hl:t.data.toList.length=t.size:=by simp
        have:t.data.toList=[]:=List.eq_nil_of_length_eq_zero (by omega);rw [this];rfl
      have HT:=aa (show (⟨(ay s.data.toList).toArray⟩:ByteArray)=t by rw [←hT]);clear hT;by_cases h0:0 < t.size
      case' pos=>
       have e1:(t.size:Int)-1=((t.size-1:Nat):Int):=by omega
       have hq:io t[t.size-1]=false:=by
        cases hq:io t[t.size-1]
        ·rfl
        ·exact absurd ⟨h0,by rw [getElem?_pos t (t.size-1) (by omega)];simp [hq]⟩ hgo
       have hbl:=mc t[t.size-1];rw [hq] at hbl;have g1:((t[t.size-1].toNat:Int)==9)=false:=by simp;intro h;have:=hbl.mpr (Or.inl (by omega));cases this
       have g2:((t[t.size-1].toNat:Int)==32)=false:=by simp;intro h;have:=hbl.mpr (Or.inr (by omega));cases this
       clear hq hbl
      all_goals
       clear hgo;go_wp2_with fail;go_ret;exact⟨by rw [HT.out];rfl,rfl⟩
end Go.Proofs.YtadcjgopaadfjaaGreatDoor
