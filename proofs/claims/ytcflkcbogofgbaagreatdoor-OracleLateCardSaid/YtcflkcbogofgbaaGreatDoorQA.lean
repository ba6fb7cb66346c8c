import Derived.Lib.SlTrimSet
import Derived.Lib.Bytealg
import Derived.Below
import Derived.Laws.OwnMore
import Derived.Deep.Draws
import Derived.Laws.Rows
import Derived.Maps.Own
import Derived.Test.YtcflkcbogofgbaaGreatDoorQShelf
import Derived.Lib.Hide
import Derived.Deep.QuietTactic
import Derived.BigQuiet
import Derived.WalkKit
import Derived.Test.YtcflkcbogofgbaaGreatDoorProg
import Derived.OwnWalk
import Derived.Laws.IdiomStrings
import Derived.Shelf.Strings.SlTrimAscii
set_option maxHeartbeats 1000000
namespace Go.Proofs.YtcflkcbogofgbaaGreatDoor
def BS(c:UInt8):Bool:=decide (65≤c.toNat∧c.toNat≤90)
def iT(c:UInt8):UInt8:=if BS c then c+32 else c
def aU(l:List UInt8):List UInt8:=l.map iT
def ua(c:UInt8):Bool:=BS c||decide (97≤c.toNat∧c.toNat≤122)
def Cp:List UInt8:=[33,35,36,37,38,39,42,43,45,46,94,95,96,124,126]
def eh(c:UInt8):Bool:=ua c||decide (48≤c.toNat∧c.toNat≤57)||Cp.contains c
def fa(c:UInt8):Bool:=c==9||(decide (32≤c.toNat)&&c != 127)
def bP(l:List UInt8):Bool:= !l.isEmpty&&l.all eh
def eg(l:List UInt8):Bool:=l.all fa
def vy:List UInt8:=[9,32]
def aw(l:List UInt8):List UInt8:=Lib.trimS l vy
theorem qL(c:UInt8):BS c=true↔65≤c.toNat∧c.toNat≤90:=by unfold BS;simp
theorem oz(c:UInt8):(iT c).toNat=if BS c then c.toNat+32 else c.toNat:=by
 unfold iT
 cases h:BS c
 ·rfl
 ·have:=(qL c).mp h;simp [UInt8.toNat_add];omega
theorem cW(p:UInt8→Bool)(h:(List.range 256).all (fun n=>p (UInt8.ofNat n))=true)(c:UInt8):p c=true:=by
 have:=List.all_eq_true.mp h c.toNat (List.mem_range.mpr c.toNat_lt);simpa using this
theorem AX(c:UInt8):ua c=false→(0≤Lib.indexByte [48,49,50,51,52,53,54,55,56,57,33,35,36,37,38,39,42,43,45,46,94,95,96,124,126] c↔eh c=true):=by
 have:=cW (fun c=>ua c||(decide (0≤Lib.indexByte [48,49,50,51,52,53,54,55,56,57,33,35,36,37,38,39,42,43,45,46,94,95,96,124,126] c)==eh c)) (by decide+kernel) c;intro h;simp only [h,Bool.false_or,beq_iff_eq] at this;rw [←this];simp
end Go.Proofs.YtcflkcbogofgbaaGreatDoor
namespace Go.Proofs.YtcflkcbogofgbaaGreatDoor
open Go.RowKit Go.Proofs
theorem gq{a b:Bool}(h:a=b):Ending.returned (.bool a)=Ending.returned (.bool b):=by rw [h]
def Bk(w:World)(g:Nat)(t:TypeId)(cs:Array Value):Prop:=w.heap[g]?=some (.cells cs t (0,0))
structure Sm (S:Nat→Prop) (w w':World):Prop where
 os:w'.os=w.os
 tape:w'.tape=w.tape
 output:w'.output=w.output
 size:w.heap.size≤w'.heap.size
 block:∀ k,k < w.heap.size→¬S k→w'.heap[k]?=w.heap[k]?
def No:Nat→Prop:=fun _=>False
section
variable {S T:Nat→Prop} {w w' w1 w2:World} {g:Nat} {t:TypeId} {cs:Array Value}
theorem Sm.refl(S:Nat→Prop)(w:World):Sm S w w:=⟨rfl,rfl,rfl,Nat.le_refl _,fun _ _ _=>rfl⟩
theorem Sm.trans(h:Sm S w w1)(k:Sm T w1 w2)(hT:∀ b,b < w.heap.size→T b→S b):Sm S w w2:=
 ⟨k.os.trans h.os,k.tape.trans h.tape,k.output.trans h.output,Nat.le_trans h.size k.size,fun b hb hS=>
  (k.block b (Nat.lt_of_lt_of_le hb h.size) (fun ht=>hS (hT b hb ht))).trans (h.block b hb hS)⟩
theorem Sm.mono(h:Sm S w w1)(hT:∀ b,b < w.heap.size→S b→T b):Sm T w w1:=
 ⟨h.os,h.tape,h.output,h.size,fun b hb hn=>h.block b hb (fun hs=>hn (hT b hb hs))⟩
theorem Sm.drew(h:Sm S w w1):Sm S w w1.drew:=⟨h.os,h.tape,h.output,h.size,h.block⟩
theorem Sm.drewN(h:Sm S w w1)(n:Nat):Sm S w (w1.drewN n):=⟨h.os,h.tape,h.output,h.size,h.block⟩
theorem Sm.alloc(h:Sm S w w1)(o:Obj):Sm S w (w1.alloc o):=
 ⟨h.os,h.tape,h.output,by have:=h.size;simp;omega,fun b hb hS=>(Below.heap_alloc w1 o b (Nat.lt_of_lt_of_le hb h.size)).trans (h.block b hb hS)⟩
theorem Sm.set(h:Sm S w w1){p:Addr}(hp:S p.block∨w.heap.size≤p.block)(u:Value):Sm S w (w1.setCell p u):=
 ⟨h.os,h.tape,h.output,by simpa using h.size,fun b hb hS=>(Below.heap_setCell w1 p u b (by
  rintro rfl;rcases hp with hp|hp
  ·exact hS hp
  ·omega)).trans (h.block b hb hS)⟩
theorem Sm.set1{g:Nat}(h:Sm (fun x=>x=g) w w1)(i:Nat)(u:Value):Sm (fun x=>x=g) w (w1.setCell ⟨g,i,none⟩ u):=h.set (Or.inl rfl) u
theorem Sm.setS{g:Nat}(h:Sm S w w1)(hg:S g)(i:Nat)(u:Value):Sm S w (w1.setCell ⟨g,i,none⟩ u):=h.set (Or.inl hg) u
theorem Sm.setN{g:Nat}(h:Sm S w w1)(hg:w.heap.size≤g)(i:Nat)(u:Value):Sm S w (w1.setCell ⟨g,i,none⟩ u):=h.set (Or.inr hg) u
theorem Sm.grown(h:Sm S w w1){row:Option Nat}(hg:w1.grownBy w2 row)(hr:∀ k,row=some k→S k∨w.heap.size≤k):Sm S w w2:=
 ⟨hg.os.trans h.os,hg.tape.trans h.tape,hg.output.trans h.output,Nat.le_trans h.size hg.size,fun b hb hS=>
  (hg.block b (Nat.lt_of_lt_of_le hb h.size) (fun e=>by
   rcases hr b e.symm with h1|h1
   ·exact hS h1
   ·omega)).trans (h.block b hb hS)⟩
theorem Sm.below(h:Sm S w w1)(hS:∀ b,b < w.heap.size→¬S b):Below w.heap.size w w1:=
 ⟨h.os,h.tape,h.output,h.size,fun b hb=>h.block b hb (hS b hb)⟩
theorem Sm.bel(h:Sm No w w1):Below w.heap.size w w1:=h.below fun _ _ hn=>hn
theorem Sm.any(h:Sm No w w1)(S:Nat→Prop):Sm S w w1:=h.mono fun _ _ hn=>hn.elim
theorem Sm.cell(h:Sm No w w1){b o:Nat}(hb:b < w.heap.size){v:Value}(hc:w.cell? ⟨b,o,none⟩=some v):w1.cell? ⟨b,o,none⟩=some v:=
 (World.cell?_of_block (w:=w) (a:=⟨b,o,none⟩) (h.block b hb (fun h=>h))).trans hc
theorem Sm.of_below(h:Below w.heap.size w w1)(S:Nat→Prop):Sm S w w1:=⟨h.os,h.tape,h.output,h.size,fun b hb _=>h.block b hb⟩
theorem Bk.lt(h:Bk w g t cs):g < w.heap.size:=by
 rcases Nat.lt_or_ge g w.heap.size with hlt|hge
 ·exact hlt
 ·unfold Bk at h;rw [Array.getElem?_eq_none hge] at h;cases h
theorem Bk.at(h:Bk w g t cs)(i:Nat){v:Value}(hv:cs[i]?=some v):w.cell? ⟨g,i,none⟩=some v:=
 (cell_of_row w g i cs t (0,0) h).trans hv
theorem Bk.fz(h:Bk w g t cs)(i:Nat):w.frozen? ⟨g,i,none⟩=false:=by
 unfold Bk at h;simp [World.frozen?,h]
theorem Bk.new(w:World)(t:TypeId)(cs:Array Value):Bk (w.alloc (.cells cs t)) w.heap.size t cs:=heap_alloc_new w _
theorem Bk.newAt(w:World)(t:TypeId)(cs:Array Value){g:Nat}(hg:g=w.heap.size):Bk (w.alloc (.cells cs t)) g t cs:=hg ▸ heap_alloc_new w _
theorem Bk.drew(h:Bk w g t cs):Bk w.drew g t cs:=h
theorem Bk.drewN(h:Bk w g t cs)(n:Nat):Bk (w.drewN n) g t cs:=h
theorem Bk.alloc(h:Bk w g t cs)(o:Obj):Bk (w.alloc o) g t cs:=(Below.heap_alloc w o g h.lt).trans h
theorem Bk.set(h:Bk w g t cs)(i:Nat)(u:Value):Bk (w.setCell ⟨g,i,none⟩ u) g t (cs.setIfInBounds i u):=by
 unfold Bk at h ⊢;simp [World.setCell,Array.getElem?_modify,h]
theorem Bk.far(h:Bk w g t cs){p:Addr}(hp:g≠p.block)(u:Value):Bk (w.setCell p u) g t cs:=(Below.heap_setCell w p u g hp).trans h
theorem Bk.sm(h:Bk w g t cs)(hs:Sm S w w')(hg:¬S g):Bk w' g t cs:=(hs.block g h.lt hg).trans h
theorem Bk.below{B:Nat}(h:Bk w g t cs)(hb:Below B w w')(hg:g < B):Bk w' g t cs:=(hb.block g hg).trans h
theorem Bk.grown{row:Option Nat}(h:Bk w g t cs)(hb:w.grownBy w' row)(hg:some g≠row):Bk w' g t cs:=(hb.block g h.lt hg).trans h
theorem Bk.eq(h:Bk w g t cs){cs':Array Value}(e:cs=cs'):Bk w g t cs':=e ▸ h
theorem Cg{H:Type}{P:Program}{k:TypeId}{R:Value→Option (DataW H × List MemPlace)}{b n:Nat}{D:DataW H}(h:w.ownsMap P k R b n D)(hs:Sm S w w')(hb:¬S b):w'.ownsMap P k R b n D:=by
 have hlt:=h.lt;obtain⟨es,clock,he,F,hn,hD⟩:=h;exact⟨es,clock,(hs.block b hlt hb).trans he,F,hn,hD⟩
end
theorem ns{p:Prop}(h:p):Go.RowKit.Hid p:=h
theorem BT{a b:Prop}(x:a)(y:b):a∧b:=⟨x,y⟩
theorem Iu{α:Sort _}(a:α):∃ x,a=x:=⟨a,rfl⟩
theorem Sm.tt{S:Nat→Prop}{w w1 w2:World}(h:Sm S w w1)(k:Sm S w1 w2):Sm S w w2:=h.trans k (fun _ _ e=>e)
end Go.Proofs.YtcflkcbogofgbaaGreatDoor
namespace Go.Proofs.YtcflkcbogofgbaaGreatDoor
open Go.RowKit Go.Proofs Go.Lib
theorem dk{a b:Bool}(h:a=true↔b=true):Ending.returned (.bool a)=.returned (.bool b):=by rw [Bool.eq_iff_iff.mpr h]
theorem CW{a:Int}{b:UInt8}(h:a=b.toNat):Ending.returned (.int .u8 a)=.returned (.int .u8 b.toNat):=by rw [h]
theorem ja(c:UInt8)(w:World):Calls Tryz.prog 178 #[.int .u8 c.toNat] w fun e w'=>e=.returned (.bool (BS c))∧w=w':=by
 have hc:=c.toNat_lt;unfold BS;go_in
 go_wp2
 all_goals
  go_ret;exact⟨dk (by simp;try omega),rfl⟩
theorem nX(c:UInt8)(w:World):Calls Tryz.prog 246 #[.int .u8 c.toNat] w fun e w'=>e=.returned (.int .u8 (iT c).toNat)∧w=w':=by
 have hc:=c.toNat_lt;have hl:=oz c;have hu:=qL c;have HL:=ns (BT hl hu);clear hl hu;go_in
 go_wp2
 all_goals
  go_ret;refine⟨CW ?_,rfl⟩;obtain⟨h1,h2⟩:=HL.out;rw [h1];split<;>simp_all<;>omega
theorem rT(c:UInt8)(w:World):Calls Tryz.prog 148 #[.int .u8 c.toNat] w fun e w'=>e=.returned (.bool (ua c))∧w=w':=by
 have hc:=c.toNat_lt;unfold ua
 cases hu:BS c
 all_goals
  have HU:=ns hu;clear hu;go_in;go_wp2_with fail;refine(ja c _).mono ?_;rintro e w' ⟨rfl,rfl⟩;rw [HU.out];go_wp2_with fail
  all_goals
   go_ret;exact⟨dk (by simp;try omega),rfl⟩
theorem kD(c:UInt8)(w:World):Calls Tryz.prog 144 #[.int .u8 c.toNat] w fun e w'=>e=.returned (.bool (fa c))∧w=w':=by
 have hc:=c.toNat_lt;have h9:(c==9)=decide (c.toNat=9):=by rw [Bool.eq_iff_iff];simp [←UInt8.toNat_inj]
 have h127:(c != 127)=decide (c.toNat≠127):=by rw [Bool.eq_iff_iff];simp [←UInt8.toNat_inj]
 unfold fa;rw [h9,h127];clear h9 h127;go_in
 go_wp2
 all_goals
  go_ret;exact⟨dk (by simp;try omega),rfl⟩
theorem ks(c:UInt8)(w:World):Calls Tryz.prog 147 #[.int .u8 c.toNat] w fun e w'=>e=.returned (.bool (eh c))∧w=w':=by
 have hc:=c.toNat_lt
 cases hu:ua c
 all_goals
  have HU:=ns hu;clear hu;go_in;go_wp2_with fail;refine(rT c _).mono ?_;rintro e w' ⟨rfl,rfl⟩;rw [HU.out];go_wp2_with fail
 ·refine(Tryz.strings_IndexByte _ _ _).mono ?_;rintro e w' ⟨rfl,rfl⟩;go_wp2_with fail;go_ret;refine⟨dk ?_,rfl⟩;have:=AX c HU.out;simp;exact this
 ·go_ret;refine⟨dk ?_,rfl⟩;simp [eh,HU.out]
end Go.Proofs.YtcflkcbogofgbaaGreatDoor
namespace Go.Proofs.YtcflkcbogofgbaaGreatDoor
open Go.RowKit Go.Proofs
def it(c:UInt8):Bool:=ua c||decide (48≤c.toNat∧c.toNat≤57)
theorem pT(c:UInt8)(w:World):Calls Tryz.prog 213 #[.int .u8 c.toNat] w fun e w'=>e=.returned (.bool (it c))∧w=w':=by
 have hc:=c.toNat_lt;have hu:it c=true↔(97≤c.toNat∧c.toNat≤122)∨(65≤c.toNat∧c.toNat≤90)∨(48≤c.toNat∧c.toNat≤57):=by
  unfold it ua BS;simp;omega
 have HU:=ns hu;clear hu;generalize it c=b at HU;go_in
 go_wp2
 all_goals
  go_ret;exact⟨dk (by rw [HU.out];simp;try omega),rfl⟩
theorem gF(c:UInt8)(w:World):Calls Tryz.prog 129 #[.int .u8 c.toNat] w fun e w'=>e=.returned (.bool (fa c))∧w=w':=by
 have hc:=c.toNat_lt;have h9:(c==9)=decide (c.toNat=9):=by rw [Bool.eq_iff_iff];simp [←UInt8.toNat_inj]
 have h127:(c != 127)=decide (c.toNat≠127):=by rw [Bool.eq_iff_iff];simp [←UInt8.toNat_inj]
 unfold fa;rw [h9,h127];clear h9 h127;go_in
 go_wp2
 all_goals
  go_ret;exact⟨dk (by simp;try omega),rfl⟩
theorem fc(s:ByteArray)(k:Nat)(h:k < s.size):s.data.toList.take (k+1)=s.data.toList.take k++[s[k]]:=by
 rw [List.take_succ_eq_append_getElem (by simpa using h)];rfl
theorem hZ(s:ByteArray)(k:Nat)(h:¬k < s.size):s.data.toList.take k=s.data.toList:=List.take_of_length_le (by simp;omega)
theorem eD(s:ByteArray)(k:Nat)(h:k < s.size)(p:UInt8→Bool)(hp:p s[k]=false):s.data.toList.all p=false:=by
 rw [List.all_eq_false];exact⟨s[k],by simp [ByteArray.getElem_eq_getElem_data],by simp [hp]⟩
theorem pG(s:ByteArray):(!s.data.toList.isEmpty)=decide (0 < s.size):=by
 have hl:s.data.toList.length=s.size:=by simp
 rw [←hl]
 cases s.data.toList with
 |nil=>rfl
 |cons a l=>simp
def lX(c:UInt8)(l:List UInt8):Bool:=l.contains c
theorem D8(c:UInt8)(s:ByteArray)(hs:s.size≤9223372036854775807)(w:World):Calls Tryz.prog 214 #[.int .u8 c.toNat,.string s] w fun e w'=>e=.returned (.bool (lX c s.data.toList))∧w=w':=by
 have hc:=c.toNat_lt;go_in
 go_wp2
 go_loop [5] (fun i=>∃ k:Nat,k≤s.size∧i=.int .i64 k∧Hid (lX c (s.data.toList.take k)=false)) (fun i=>s.size-(intOf i).toNat)
 case atStart=>exact⟨0,Nat.zero_le _,rfl,ns rfl⟩
 case round=>
  obtain⟨k,hk,rfl,HK⟩:=hrel;by_cases hlt:k < s.size
  ·by_cases hq:s[k]=c
   ·have hin:lX c s.data.toList=true:=by unfold lX;rw [←hq];simp [ByteArray.getElem_eq_getElem_data]
    have HIN:=ns hin;have hq2:((s[k].toNat:Int)==(c.toNat:Int))=true:=by simp [hq]
    clear hin hq
    go_wp2
    go_ret;exact⟨by rw [HIN.out];rfl,rfl⟩
   ·have hnx:lX c (s.data.toList.take (k+1))=false:=by
     have:=HK.out;unfold lX at this ⊢;rw [fc s k hlt,List.contains_eq_any_beq,List.any_append,←List.contains_eq_any_beq,this];simp;exact fun h=>hq h.symm
    have HN:=ns hnx;have hq2:((s[k].toNat:Int)==(c.toNat:Int))=false:=by
     simp;intro h;exact hq (UInt8.toNat_inj.mp (by omega))
    clear hnx hq
    go_wp2
    go_round
    case rel=>exact⟨k+1,by omega,by go_num,HN⟩
    case measure=>simp [intOf];omega
  ·have ha:=hZ s k hlt
   go_wp2
   go_ret;exact⟨by have:=HK.out;rw [ha] at this;rw [this];rfl,rfl⟩
theorem yK(c:UInt8):eh c=(it c||lX c Cp):=rfl
theorem gG(c:UInt8)(w:World):Calls Tryz.prog 175 #[.int .u8 c.toNat] w fun e w'=>e=.returned (.bool (eh c))∧w=w':=by
 rw [yK]
 cases hu:it c
 all_goals
  have HU:=ns hu;clear hu;go_in;go_wp2_with fail;refine(pT c _).mono ?_;rintro e w' ⟨rfl,rfl⟩;rw [HU.out];go_wp2_with fail
 ·refine(D8 c _ (by decide) _).mono ?_;rintro e w' ⟨rfl,rfl⟩;go_wp2_with fail;go_ret;exact⟨by simp [Cp],rfl⟩
 ·go_ret;exact⟨by simp,rfl⟩
theorem rQ(s:ByteArray)(hs:s.size≤9223372036854775807)(w:World):Calls Tryz.prog 131 #[.string s] w fun e w'=>e=.returned (.bool (bP s.data.toList))∧w=w':=by
 go_in
 go_wp2
 go_loop [3] (fun i=>∃ k:Nat,k≤s.size∧i=.int .i64 k∧Hid ((s.data.toList.take k).all eh=true)) (fun i=>s.size-(intOf i).toNat)
 case atStart=>exact⟨0,Nat.zero_le _,rfl,ns rfl⟩
 case round=>
  obtain⟨k,hk,rfl,HK⟩:=hrel;by_cases hlt:k < s.size
  ·cases hq:eh s[k]
   ·have hall:bP s.data.toList=false:=by unfold bP;rw [eD s k hlt eh hq];simp
    have HA:=ns hall;have HQ:=ns hq;clear hall hq;go_wp2_with fail;refine(gG _ _).mono ?_;rintro e w' ⟨rfl,rfl⟩;rw [HQ.out];go_wp2_with fail;go_ret;exact⟨by rw [HA.out];rfl,rfl⟩
   ·have hnx:(s.data.toList.take (k+1)).all eh=true:=by
     rw [fc s k hlt,List.all_append,HK.out];simp [hq]
    have HN:=ns hnx;have HQ:=ns hq;clear hnx hq;go_wp2_with fail;refine(gG _ _).mono ?_;rintro e w' ⟨rfl,rfl⟩;rw [HQ.out];go_wp2_with fail
    go_round
    case rel=>exact⟨k+1,by omega,by go_num,HN⟩
    case measure=>simp [intOf];omega
  ·have ha:=hZ s k hlt;have H2:bP s.data.toList=decide (0 < s.size):=by
    unfold bP;have:=HK.out;rw [ha] at this;rw [this,Bool.and_true];exact pG s
   have HA:=ns H2;clear H2 ha
   go_wp2
   go_ret;exact⟨by rw [HA.out];rfl,rfl⟩
theorem rI(s:ByteArray)(hs:s.size≤9223372036854775807)(w:World):Calls Tryz.prog 82 #[.string s] w fun e w'=>e=.returned (.bool (eg s.data.toList))∧w=w':=by
 go_in
 go_wp2
 go_loop [3] (fun i=>∃ k:Nat,k≤s.size∧i=.int .i64 k∧Hid ((s.data.toList.take k).all fa=true)) (fun i=>s.size-(intOf i).toNat)
 case atStart=>exact⟨0,Nat.zero_le _,rfl,ns rfl⟩
 case round=>
  obtain⟨k,hk,rfl,HK⟩:=hrel;by_cases hlt:k < s.size
  ·cases hq:fa s[k]
   ·have hall:eg s.data.toList=false:=eD s k hlt fa hq;have HA:=ns hall;have HQ:=ns hq;clear hall hq;go_wp2_with fail;refine(gF _ _).mono ?_;rintro e w' ⟨rfl,rfl⟩;rw [HQ.out];go_wp2_with fail;go_ret;exact⟨by rw [HA.out];rfl,rfl⟩
   ·have hnx:(s.data.toList.take (k+1)).all fa=true:=by
     rw [fc s k hlt,List.all_append,HK.out];simp [hq]
    have HN:=ns hnx;have HQ:=ns hq;clear hnx hq;go_wp2_with fail;refine(gF _ _).mono ?_;rintro e w' ⟨rfl,rfl⟩;rw [HQ.out];go_wp2_with fail
    go_round
    case rel=>exact⟨k+1,by omega,by go_num,HN⟩
    case measure=>simp [intOf];omega
  ·have ha:=hZ s k hlt;have H2:eg s.data.toList=true:=by
    unfold eg;have:=HK.out;rw [ha] at this;exact this
   have HA:=ns H2;clear H2 ha
   go_wp2
   go_ret;exact⟨by rw [HA.out];rfl,rfl⟩
def si(p:UInt8→Bool)(l:List UInt8):Bool:=l.all p
def En(s:ByteArray)(p:UInt8→Bool)(i:Value):Prop:=∃ k:Nat,k≤s.size∧i=.int .i64 k∧Hid ((s.data.toList.take k).all p=true)
theorem ze(s:ByteArray)(hs:s.size≤9223372036854775807)(w:World):Calls Tryz.prog 143 #[.string s,.func (.func 147) #[] #[]] w fun e w'=>e=.returned (.bool (si eh s.data.toList))∧w=w':=by
 go_in
 go_wp2
 go_loop [8] (fun i=>En s eh i) (fun i=>s.size-(intOf i).toNat)
 case atStart=>exact⟨0,Nat.zero_le _,rfl,ns rfl⟩
 case round=>
  obtain⟨k,hk,rfl,HK⟩:=hrel;by_cases hlt:k < s.size
  ·cases hq:eh s[k]
   ·have HA:=ns (show si eh s.data.toList=false from eD s k hlt eh hq);have HQ:=ns hq;clear hq;go_wp2_with fail;refine(ks _ _).mono ?_;rintro e w' ⟨rfl,rfl⟩;rw [HQ.out];go_wp2_with fail;go_ret;exact⟨by rw [HA.out];rfl,rfl⟩
   ·have hnx:(s.data.toList.take (k+1)).all eh=true:=by
     rw [fc s k hlt,List.all_append,HK.out];simp [hq]
    have HN:=ns hnx;have HQ:=ns hq;clear hnx hq;go_wp2_with fail;refine(ks _ _).mono ?_;rintro e w' ⟨rfl,rfl⟩;rw [HQ.out];go_wp2_with fail
    go_round
    case rel=>exact⟨k+1,by omega,by go_num,HN⟩
    case measure=>simp [intOf];omega
  ·have ha:=hZ s k hlt;have H2:si eh s.data.toList=true:=by have:=HK.out;rw [ha] at this;exact this
   have HA:=ns H2;clear H2 ha
   go_wp2
   go_ret;exact⟨by rw [HA.out];rfl,rfl⟩
theorem Bp(s:ByteArray)(hs:s.size≤9223372036854775807)(w:World):Calls Tryz.prog 143 #[.string s,.func (.func 144) #[] #[]] w fun e w'=>e=.returned (.bool (si fa s.data.toList))∧w=w':=by
 go_in
 go_wp2
 go_loop [8] (fun i=>En s fa i) (fun i=>s.size-(intOf i).toNat)
 case atStart=>exact⟨0,Nat.zero_le _,rfl,ns rfl⟩
 case round=>
  obtain⟨k,hk,rfl,HK⟩:=hrel;by_cases hlt:k < s.size
  ·cases hq:fa s[k]
   ·have HA:=ns (show si fa s.data.toList=false from eD s k hlt fa hq);have HQ:=ns hq;clear hq;go_wp2_with fail;refine(kD _ _).mono ?_;rintro e w' ⟨rfl,rfl⟩;rw [HQ.out];go_wp2_with fail;go_ret;exact⟨by rw [HA.out];rfl,rfl⟩
   ·have hnx:(s.data.toList.take (k+1)).all fa=true:=by
     rw [fc s k hlt,List.all_append,HK.out];simp [hq]
    have HN:=ns hnx;have HQ:=ns hq;clear hnx hq;go_wp2_with fail;refine(kD _ _).mono ?_;rintro e w' ⟨rfl,rfl⟩;rw [HQ.out];go_wp2_with fail
    go_round
    case rel=>exact⟨k+1,by omega,by go_num,HN⟩
    case measure=>simp [intOf];omega
  ·have ha:=hZ s k hlt;have H2:si fa s.data.toList=true:=by have:=HK.out;rw [ha] at this;exact this
   have HA:=ns H2;clear H2 ha
   go_wp2
   go_ret;exact⟨by rw [HA.out];rfl,rfl⟩
theorem mC(s:ByteArray)(hs:s.size≤9223372036854775807)(w:World):Calls Tryz.prog 100 #[.string s] w fun e w'=>e=.returned (.bool (eg s.data.toList))∧w=w':=by
 go_in;go_wp2_with fail;refine(Bp _ hs _).mono ?_;rintro e w' ⟨rfl,rfl⟩;go_wp2_with fail;go_ret;exact⟨rfl,rfl⟩
theorem tm(s:ByteArray)(hs:s.size≤9223372036854775807)(w:World):Calls Tryz.prog 104 #[.string s] w fun e w'=>e=.returned (.bool (bP s.data.toList))∧w=w':=by
 cases hn:s.data.toList with
 |nil=>
  have h1:s.toList=[]:=by rw [Go.ByteArray.toList_eq];exact hn
  have h2:s.toList.isEmpty=true:=by rw [h1];rfl
  go_in;go_wp2_with fail;go_ret;exact⟨rfl,rfl⟩
 |cons a l=>
  have h1:¬s.toList=[]:=by rw [Go.ByteArray.toList_eq,hn];simp
  have h2:s.toList.isEmpty=false:=by rw [Go.ByteArray.toList_eq,hn];rfl
  have h3:bP (a::l)=si eh s.data.toList:=by rw [hn];simp [bP,si]
  rw [h3];clear h3 hn;go_in;go_wp2_with fail;refine(ze s hs _).mono ?_;rintro e w' ⟨rfl,rfl⟩;go_wp2_with fail;go_ret;exact⟨rfl,rfl⟩
section
variable {P:Program}
theorem bF {ops:Array Oper} {rest:List Oper} {o:Oper} {a:Act} {w:World} {Q:Exit→Act→World→Prop} (hgd:o.guard=none) (ty:TypeId) (x:Operand) (ho:o.op=.load ty x)
 {fs:Array Field} (hu:P.underlying ty=some (.struct fs)) (n:Nat) (hi:(P.info? ty).map (·.size)=some n)
 (g:Nat) (hx:a.eval x=.pointer (some ⟨g,0,none⟩)) {t:TypeId} (cs:Array Value) (hb:Bk w g t cs) (hn:cs.size=n)
 (h:wpList P ops Q rest (a.put o.dst (.agg cs)) w):wpList P ops Q (o::rest) a w:=
 wpList_load_row hgd ty x ho g hx t cs (0,0) (.struct fs) hb hu rfl (by rw [hi,hn]) h
theorem xa {fn:Func} {p:Tmp} {ty:TypeId} (h:fn.results=#[.cell p ty]) (tmps:Array Value) {w:World} (g:Nat) {t:TypeId} {cs:Array Value} {fs:Array Field}
 (hp:tmps.getD p undef=.pointer (some ⟨g,0,none⟩)) (hb:Bk w g t cs) (hu:P.underlying ty=some (.struct fs)) {n:Nat} (hi:(P.info? ty).map (·.size)=some n) (hn:cs.size=n):
 (results fn tmps).run P w=.ok (.agg cs) w:=
 results_cell_row h tmps w g t cs (0,0) (.struct fs) hp hb hu rfl (by rw [hi,hn])
end
def By(w:World)(g:Nat)(l:List UInt8):Prop:=
 g < w.heap.size∧∀ j c,l[j]?=some c→w.cell? ⟨g,j,none⟩=some (.int .u8 c.toNat)∧w.frozen? ⟨g,j,none⟩=false
section
variable {S:Nat→Prop} {w w':World} {g:Nat} {l:List UInt8}
theorem By.sm(h:By w g l)(hs:Sm S w w')(hg:¬S g):By w' g l:=by
 refine⟨Nat.lt_of_lt_of_le h.1 hs.size,fun j c hj=> ?_⟩;obtain⟨h1,h2⟩:=h.2 j c hj;have hb:=hs.block g h.1 hg;exact⟨(World.cell?_of_block (w:=w) (a:=⟨g,j,none⟩) hb).trans h1,by
  have:w'.frozen? ⟨g,j,none⟩=w.frozen? ⟨g,j,none⟩:=by unfold World.frozen?;rw [hb]
  rw [this];exact h2⟩
theorem By.drew(h:By w g l):By w.drew g l:=h
theorem By.drewN(h:By w g l)(n:Nat):By (w.drewN n) g l:=h
theorem By.alloc(h:By w g l)(o:Obj):By (w.alloc o) g l:=h.sm ((Sm.refl No w).alloc o) (fun h=>h)
theorem By.at(h:By w g l){j:Nat}{c:UInt8}(hj:l[j]?=some c):w.cell? ⟨g,j,none⟩=some (.int .u8 c.toNat):=(h.2 j c hj).1
theorem By.fz(h:By w g l){j:Nat}(hj:j < l.length):w.frozen? ⟨g,j,none⟩=false:=(h.2 j l[j] (by simp [hj])).2
theorem By.set(h:By w g l)(i:Nat)(hi:i < l.length)(c:UInt8):By (w.setCell ⟨g,i,none⟩ (.int .u8 c.toNat)) g (l.set i c):=by
 refine⟨by simpa using h.1,fun j d hj=> ?_⟩;by_cases e:i=j
 ·subst e;rw [List.getElem?_set_self hi] at hj;obtain rfl:c=d:=by simpa using hj
  obtain⟨h1,h2⟩:=h.2 i l[i] (by simp [hi]);refine⟨?_,?_⟩
  ·exact World.cell?_setCell_same w _ _ h1
  ·rw [World.frozen?_setCell];exact h2
 ·rw [List.getElem?_set_ne e] at hj;obtain⟨h1,h2⟩:=h.2 j d hj;refine⟨?_,?_⟩
  ·rw [World.cell?_setCell_other w _ _ _ (by simp)];exact h1
  ·rw [World.frozen?_setCell];exact h2
end
section
variable {P:Program} {ops:Array Oper} {rest:List Oper} {o:Oper} {a:Act} {w:World} {Q:Exit→Act→World→Prop}
theorem mO (hgd:o.guard=none) (src dst e:TypeId) (x:Operand) (ho:o.op=.convert src dst x) (s:ByteArray) (hx:a.eval x=.string s)
 (hs:P.underlying src=some .string) (hd:P.underlying dst=some (.slice e)) (he:P.underlying e=some (.int .u8))
 (h:∀ (cap:Nat) w',By w' w.heap.size s.data.toList→s.size≤cap→Sm No w w'→w'.heap.size=w.heap.size+1→wpList P ops Q rest (a.put o.dst (.slice (some ⟨w.heap.size,0,none⟩) s.size cap)) w'):wpList P ops Q (o::rest) a w:=by
 refine wpList_plain hgd fun _ hK=> ?_;unfold Oper.wp execOp;simp only [ho,hx,Sem.run_bind,Sem.run_pure,run_bytes_of_string w src dst e s hs hd he,Result.andThen_ok];refine hK _ _ (h _ _ ⟨by simp,fun j c hj=>⟨?_,?_⟩⟩ ?_ ?_ (by simp))
 ·have hj':j < s.data.size:=by
   have:=List.getElem?_eq_some_iff.mp hj;simpa using this.1
  refine(World.cell?_alloc_mark w.drew _ e _ j).trans ?_;rw [bytesRow_at s _ j hj'];have:s.data[j]=c:=by
   have:=(List.getElem?_eq_some_iff.mp hj).2;simpa using this
  rw [this]
 ·have hj':j < s.data.size:=by
   have:=List.getElem?_eq_some_iff.mp hj;simpa using this.1
  refine(World.frozen?_alloc_mark w.drew _ e _ _ j).trans ?_;have:¬(bytesRow s (grownCap w s.size 0 e)).size≤j:=by
   have hsz:s.size=s.data.size:=rfl;simp only [bytesRow,Array.size_append,Array.size_map,Array.size_replicate];omega
  simp [this]
 ·exact grownCap_ge w s.size 0 e
 ·exact((Sm.refl No w).drew).alloc _
theorem aE (hgd:o.guard=none) (src dst e:TypeId) (x:Operand) (ho:o.op=.convert src dst x) (g n cap:Nat) (l:List UInt8) (hx:a.eval x=.slice (some ⟨g,0,none⟩) n cap)
 (hs:P.underlying src=some (.slice e)) (he:P.underlying e=some (.int .u8)) (hd:P.underlying dst=some .string) (hb:By w g l) (hn:l.length=n)
 (h:wpList P ops Q rest (a.put o.dst (.string ⟨l.toArray⟩)) w):wpList P ops Q (o::rest) a w:=by
 subst hn;refine wpList_plain hgd fun _ hK=> ?_;unfold Oper.wp execOp;simp only [ho,hx,Sem.run_bind,Sem.run_pure,run_convert_bytes_back w src dst e ⟨g,0,none⟩ cap l hs he hd (fun j hj=>by
  have e:(⟨g,0,none⟩:Addr).add j=⟨g,j,none⟩:=by unfold Addr.add;split<;>simp_all
  rw [e];exact hb.at (by simp [hj])),Result.andThen_ok]
 exact hK _ _ h
theorem lp (hgd:o.guard=none) (t e:TypeId) (x y:Operand) (ho:o.op=.makeSlice t x y) (n:Nat) (hx:a.eval x=.int .i64 n) (hy:a.eval y=.int .i64 n)
 (ht:P.underlying t=some (.slice e)) (hi:(P.info? e).map (fun i=>(i.zero,i.size,i.bytes))=some (some (.int .u8 0),1,1)) (hn:n≤1000000)
 (h:∀ w',By w' w.heap.size (List.replicate n 0)→Sm No w w'→w'.heap.size=w.heap.size+1→wpList P ops Q rest (a.put o.dst (.slice (some ⟨w.heap.size,0,none⟩) n n)) w'):wpList P ops Q (o::rest) a w:=by
 obtain⟨i0,h0,h1,h2,h3⟩:=info_parts hi;have hr:=run_make (P:=P) w t e i0 (.int .u8 0) ht h0 h1 .i64 .i64 n n (by omega) (Int.le_refl _) (by rw [h3];omega) (by omega);simp only [Int.toNat_natCast,h2,Nat.mul_one] at hr;refine wpList_plain hgd fun _ hK=> ?_;unfold Oper.wp execOp;simp only [ho,hx,hy,Sem.run_bind,Sem.run_pure,hr,Result.andThen_ok];have hb:=Bk.new w e (madeCells #[.int .u8 0] n);refine hK _ _ (h _ ⟨by simp,fun j c hj=> ?_⟩ ((Sm.refl No w).alloc _) (by simp));have hj':j < n:=by
  have:=(List.getElem?_eq_some_iff.mp hj).1;simpa using this
 obtain rfl:0=c:=by simpa [hj'] using hj
 exact⟨hb.at j (by simp [madeCells,hj',Nat.mod_one]),hb.fz j⟩
end
def ko(l:List UInt8)(k:Nat):List UInt8:=aU (l.take k)++l.drop k
theorem zy(l:List UInt8):ko l 0=l:=by simp [ko,aU]
theorem ow(l:List UInt8)(k:Nat)(h:k≤l.length):(ko l k).length=l.length:=by simp [ko,aU];omega
theorem Eb(l:List UInt8)(k:Nat)(h:l.length≤k):ko l k=aU l:=by simp [ko,List.take_of_length_le h,List.drop_eq_nil_of_le h]
theorem yg(l:List UInt8)(k:Nat)(h:k < l.length):(ko l k)[k]?=some l[k]:=by
 unfold ko aU;have e:min k l.length=k:=by omega
 rw [List.getElem?_append_right (by simp;omega)];simp [e,h]
theorem tx(l:List UInt8)(k:Nat)(h:k < l.length):(ko l k).set k (iT l[k])=ko l (k+1):=by
 have e:l.drop k=l[k]::l.drop (k+1):=List.drop_eq_getElem_cons h;unfold ko aU;have e4:k-(List.map iT (List.take k l)).length=0:=by simp;omega
 rw [e,List.set_append_right _ _ (by simp;omega),List.take_succ_eq_append_getElem h,List.map_append,e4];simp only [List.set_cons_zero,List.map_cons,List.map_nil,List.append_assoc,List.singleton_append]
theorem BC(l:List UInt8)(k:Nat)(h:k < l.length)(hu:BS l[k]=false):ko l k=ko l (k+1):=by
 rw [←tx l k h];have e:iT l[k]=l[k]:=by simp [iT,hu]
 rw [e];have:=yg l k h;apply List.ext_getElem?;intro i;rw [List.getElem?_set];split
 ·rename_i hi;subst hi;rw [this];have:=ow l k (by omega);simp;omega
 ·rfl
def Gx(s:ByteArray)(w:World)(g:Nat)(i:Value)(wr:World):Prop:=∃ k:Nat,k≤s.size∧i=.int .i64 k∧By wr g (ko s.data.toList k)∧Sm No w wr
theorem jC(s:ByteArray)(hs:s.size≤1000000)(w:World):Calls Tryz.prog 184 #[.string s] w fun e w'=>e=.returned (.string ⟨(aU s.data.toList).toArray⟩)∧Sm No w w':=by
 have hl:s.data.toList.length=s.size:=by simp
 have HL:=ns hl;clear hl;go_in;go_wp2_with (refine mO rfl 9 22 5 _ rfl s rfl Tryz.underlying9 Tryz.underlying22 Tryz.underlying5 fun cap w1 hb hcap hs1 hz=> ?_);have HB:=ns hb;have HS:=ns hs1;clear hb hs1 hz
 go_loopw [10] (fun i wr=>Gx s w w.heap.size i wr) (fun i _=>s.size-(intOf i).toNat)
 case atStart=>exact⟨0,Nat.zero_le _,rfl,by rw [zy];exact HB.out,HS.out⟩
 case round=>
  obtain⟨k,hk,rfl,hb,hsm⟩:=hrel;by_cases hlt:k < s.size
  ·have hlt2:k < s.data.toList.length:=by rw [HL.out];exact hlt
   obtain⟨c,hcd⟩:=Iu (s.data.toList[k]);have hx:=yg s.data.toList k hlt2;rw [hcd] at hx;have hc:=hb.at hx;have hf:=hb.fz (j:=k) (by rw [ow _ _ (by omega)];exact hlt2);have hset:=tx s.data.toList k hlt2;have hsame:=BC s.data.toList k hlt2;rw [hcd] at hset hsame;have h256:=c.toNat_lt;have HC:=ns hcd;have HX:=ns hx;clear hcd hx
   cases hu:BS c
   ·have H2:=ns (hsame hu);have HU:=ns hu;clear hset hsame hu;go_wp2_with fail;refine(ja c _).mono ?_;rintro e w' ⟨rfl,rfl⟩;rw [HU.out];go_wp2_with fail;exact⟨⟨k+1,by omega,by go_num,by rw [←H2.out];exact hb,hsm⟩,by simp [intOf];omega⟩
   ·have H2:=ns hset;have HU:=ns hu;obtain⟨hu1,hu2⟩:=(qL c).mp hu;have H3:=ns (oz c);have H4:=ns (hb.set k (by rw [ow _ _ (by omega)];exact hlt2) (iT c));clear hset hsame hu;go_wp2_with fail;refine(ja c _).mono ?_;rintro e w' ⟨rfl,rfl⟩;rw [HU.out];go_wp2_with fail;have hv:((iT c).toNat:Int)=c.toNat+97-65:=by rw [H3.out,HU.out];simp;omega
    exact⟨⟨k+1,by omega,by go_num,by rw [←H2.out,←hv];exact H4.out,hsm.setN (Nat.le_refl _) _ _⟩,by simp [intOf];omega⟩
  ·have hb2:=hb;rw [Eb _ _ (by rw [HL.out];omega)] at hb2;have HB2:=ns hb2;clear hb2;go_wp2_with (refine aE rfl 22 9 5 _ rfl w.heap.size s.size cap _ rfl Tryz.underlying22 Tryz.underlying5 Tryz.underlying9 HB2.out (by simp [aU]) ?_);go_ret;exact⟨rfl,hsm⟩
def po(l:List UInt8)(k:Nat):List UInt8:=aU (l.take k)++List.replicate (l.length-k) 0
theorem sE(l:List UInt8)(k:Nat)(h:k≤l.length):(po l k).length=l.length:=by simp [po,aU];omega
theorem CY(l:List UInt8)(k:Nat)(h:l.length≤k):po l k=aU l:=by
 have:l.length-k=0:=by omega
 simp [po,List.take_of_length_le h,this]
theorem FO(l:List UInt8)(k:Nat)(h:k < l.length):(po l k)[k]?=some 0:=by
 unfold po aU;rw [List.getElem?_append_right (by simp;omega),List.getElem?_replicate,if_pos (by simp;omega)]
theorem Cf(l:List UInt8)(k:Nat)(h:k < l.length):(po l k).set k (iT l[k])=po l (k+1):=by
 unfold po aU;have e4:k-(List.map iT (List.take k l)).length=0:=by simp;omega
 have e5:l.length-k=(l.length-(k+1))+1:=by omega
 rw [List.set_append_right _ _ (by simp;omega),List.take_succ_eq_append_getElem h,List.map_append,e4,e5,List.replicate_succ];simp only [List.set_cons_zero,List.map_cons,List.map_nil,List.append_assoc,List.singleton_append]
def EP(s:ByteArray)(w:World)(g:Nat)(i:Value)(wr:World):Prop:=∃ k:Nat,k≤s.size∧i=.int .i64 k∧By wr g (po s.data.toList k)∧Sm No w wr
theorem eE:(Tryz.prog.info? 5).map (fun i=>(i.zero,i.size,i.bytes))=some (some (.int .u8 0),1,1):=by kernel_rfl
theorem jZ(s:ByteArray)(hs:s.size≤1000000)(w:World):Calls Tryz.prog 215 #[.string s] w fun e w'=>e=.returned (.string ⟨(aU s.data.toList).toArray⟩)∧Sm No w w':=by
 have hl:s.data.toList.length=s.size:=by simp
 have HL:=ns hl;clear hl;go_in;go_wp2_with (refine lp rfl 22 5 _ _ rfl s.size rfl rfl Tryz.underlying22 eE (by omega) fun w1 hb hs1 hz=> ?_);have HB:=ns hb;have HS:=ns hs1;clear hb hs1 hz
 go_loopw [4] (fun i wr=>EP s w w.heap.size i wr) (fun i _=>s.size-(intOf i).toNat)
 case atStart=>exact⟨0,Nat.zero_le _,rfl,by simpa [po,aU] using HB.out,HS.out⟩
 case round=>
  obtain⟨k,hk,rfl,hb,hsm⟩:=hrel;by_cases hlt:k < s.size
  ·have hlt2:k < s.data.toList.length:=by rw [HL.out];exact hlt
   have hx:=FO s.data.toList k hlt2;have hc:=hb.at hx;have hf:=hb.fz (j:=k) (by rw [sE _ _ (by omega)];exact hlt2);have H2:=ns (Cf s.data.toList k hlt2);have H4:=ns (hb.set k (by rw [sE _ _ (by omega)];exact hlt2) (iT s[k]));have e:s.data.toList[k]=s[k]:=rfl;have HE:=ns e;clear hx e;go_wp2_with fail;refine(nX _ _).mono ?_;rintro e w' ⟨rfl,rfl⟩;go_wp2_with fail;exact⟨⟨k+1,by omega,by go_num,by have:=H2.out;rw [HE.out] at this;rw [←this];exact H4.out,hsm.setN (Nat.le_refl _) _ _⟩,by simp [intOf];omega⟩
  ·have hb2:=hb;rw [CY _ _ (by rw [HL.out];omega)] at hb2;have HB2:=ns hb2;clear hb2;go_wp2_with (refine aE rfl 22 9 5 _ rfl w.heap.size s.size s.size _ rfl Tryz.underlying22 Tryz.underlying5 Tryz.underlying9 HB2.out (by simp [aU]) ?_);go_ret;exact⟨rfl,hsm⟩
end Go.Proofs.YtcflkcbogofgbaaGreatDoor
namespace Go.Proofs.YtcflkcbogofgbaaGreatDoor
open Go.RowKit Go.Proofs Go.Shelf
def bA(l m:List UInt8):Bool:=aU l==aU m
theorem uQ(s t:ByteArray)(hs:s.size≤1000000)(ht:t.size≤1000000)(w:World):Calls Tryz.prog 156 #[.string s,.string t] w fun e w'=>e=.returned (.bool (bA s.data.toList t.data.toList))∧Sm No w w':=by
 unfold bA;generalize hx:aU s.data.toList=x;generalize hy:aU t.data.toList=y;have HX:=ns hx;have HY:=ns hy;clear hx hy;go_in;go_wp2_with fail;refine(jC s hs _).mono ?_;rintro e w1 ⟨rfl,hs1⟩;rw [HX.out];go_wp2_with fail;refine(jC t ht _).mono ?_;rintro e w2 ⟨rfl,hs2⟩;rw [HY.out];go_wp2_with fail;go_ret;exact⟨dk (by simp),hs1.tt hs2⟩
theorem Az(s t:ByteArray)(hs:s.size≤1000000)(ht:t.size≤1000000)(w:World):Calls Tryz.prog 176 #[.string s,.string t] w fun e w'=>e=.returned (.bool (bA s.data.toList t.data.toList))∧Sm No w w':=by
 unfold bA;generalize hx:aU s.data.toList=x;generalize hy:aU t.data.toList=y;have HX:=ns hx;have HY:=ns hy;clear hx hy;go_in;go_wp2_with fail;refine(jZ s hs _).mono ?_;rintro e w1 ⟨rfl,hs1⟩;rw [HX.out];go_wp2_with fail;refine(jZ t ht _).mono ?_;rintro e w2 ⟨rfl,hs2⟩;rw [HY.out];go_wp2_with fail;go_ret;exact⟨dk (by simp),hs1.tt hs2⟩
theorem oO(s:ByteArray)(hs:s.size≤9223372036854775807)(w:World):Calls Tryz.prog 71 #[.string s] w fun e w'=>e=.returned (.string ⟨(aw s.data.toList).toArray⟩)∧Sm No w w':=by
 have hcon:=fun (w:World)=>Any.strings_Trim_laid Tryz.lays160 (by kernel_rfl) s ⟨#[9,32]⟩ w hs (by decide) (ascii_of_all (by decide))
 change ∀ w,Calls Tryz.prog 122 _ _ (fun e w'=>e=.returned (.string ⟨(aw s.data.toList).toArray⟩)∧Below w.heap.size w w') at hcon
 generalize (⟨(aw s.data.toList).toArray⟩:ByteArray)=r at hcon ⊢;go_in;go_wp2_with fail;refine(hcon _).mono ?_;rintro e w' ⟨rfl,hB⟩;go_wp2_with fail;go_ret;exact⟨rfl,Sm.of_below hB No⟩
end Go.Proofs.YtcflkcbogofgbaaGreatDoor
namespace Go.Proofs.YtcflkcbogofgbaaGreatDoor
open Go.RowKit Go.Proofs
def ia(c:UInt8):Bool:=c==9||c==32
def aO(l:List UInt8):List UInt8:=l.dropWhile ia
def dD(l:List UInt8):List UInt8:=(l.reverse.dropWhile ia).reverse
theorem oI(c:UInt8)(l:List UInt8):dD (c::l)=if dD l=[]∧ia c=true then [] else c::dD l:=by
 unfold dD;rw [List.reverse_cons,List.dropWhile_append];by_cases h:List.dropWhile ia l.reverse=[]
 ·simp only [h,List.isEmpty_nil,if_true,List.reverse_nil,true_and]
  cases hc:ia c<;>simp [List.dropWhile,hc]
 ·have h2:(List.dropWhile ia l.reverse).isEmpty=false:=by simpa using h
  have h3:¬((List.dropWhile ia l.reverse).reverse=[]∧ia c=true):=fun h4=>h (by simpa using h4.1);rw [if_neg h3];simp [h2]
theorem pX(l:List UInt8):aO (dD l)=dD (aO l):=by
 induction l with
 |nil=>rfl
 |cons c l ih=>
  rw [oI]
  cases hc:ia c
  ·simp [aO,hc,oI]
  ·have e:aO (c::l)=aO l:=by simp [aO,hc]
   rw [e,←ih];split
   ·rename_i h;rw [h.1]
   ·simp [aO,hc]
theorem je(l:List UInt8):aw l=dD (aO l):=by
 have e:(fun c=>vy.contains c)=ia:=by
  funext c
  have:=cW (fun c=>vy.contains c==ia c) (by decide+kernel) c;simpa using this
 unfold aw Lib.trimS Lib.trimLeftS Lib.trimRightS;rw [e];exact pX l
theorem nz(l:List UInt8)(c:UInt8):dD (l++[c])=if ia c=true then dD l else l++[c]:=by
 unfold dD;rw [List.reverse_append]
 cases hc:ia c<;>simp [hc]
def Ca(s:ByteArray)(v:Value):Prop:=∃ t:ByteArray,v=.string t∧t.size≤s.size∧aO t.data.toList=aO s.data.toList
def Cn(s:ByteArray)(v:Value):Prop:=∃ t:ByteArray,v=.string t∧t.size≤s.size∧dD t.data.toList=aw s.data.toList
def eU(v:Value):Nat:=match v with| .string t=>t.size|_=>0
theorem pk(t:ByteArray)(h:0 < t.size):∃ l,t.data.toList=t[0]::l:=by
 obtain⟨⟨l⟩⟩:=t
 cases l with
 |nil=>exact absurd h (Nat.lt_irrefl 0)
 |cons a l=>exact⟨l,rfl⟩
theorem pR(t:ByteArray)(h:0 < t.size):∃ l,t.data.toList=l++[t[t.size-1]]:=by
 have hl:t.data.toList.length=t.size:=by simp
 refine⟨t.data.toList.dropLast,?_⟩;have hne:t.data.toList≠[]:=by intro e;rw [e] at hl;simp at hl;omega
 have:=(List.dropLast_concat_getLast hne).symm;rw [this];congr 2;rw [List.getLast_eq_getElem];simp [ByteArray.getElem_eq_getElem_data]
theorem kw(c:UInt8):ia c=true↔c.toNat=9∨c.toNat=32:=by
 unfold ia;simp [←UInt8.toNat_inj]
theorem zj(t:ByteArray)(c:UInt8)(m:List UInt8)(hm:t.data.toList=c::m):(t.extract 1 t.size).data.toList=m:=by
 have hl:t.data.toList.length=t.size:=by simp
 rw [Lib.extract_data,hm];rw [hm] at hl;simp at hl;simp [List.take_of_length_le,←hl]
theorem Bo(t:ByteArray)(c:UInt8)(m:List UInt8)(hm:t.data.toList=m++[c]):(t.extract 0 (t.size-1)).data.toList=m:=by
 have hl:t.data.toList.length=t.size:=by simp
 rw [Lib.extract_data,hm];rw [hm] at hl;simp at hl;simp [←hl]
theorem zJ(s:ByteArray)(hs:s.size≤9223372036854775807)(w:World):Calls Tryz.prog 83 #[.string s] w fun e w'=>e=.returned (.string ⟨(aw s.data.toList).toArray⟩)∧w=w':=by
 go_in;go_wp2_with fail
 go_loop [0] (fun v=>Ca s v) (fun v=>eU v)
 case atStart=>exact⟨s,rfl,Nat.le_refl _,rfl⟩
 case round=>
  obtain⟨t,rfl,ht,hd⟩:=hrel;have HD:=ns hd;clear hd;by_cases hgo:0 < t.size∧(t[0]?.map ia)=some true
  ·obtain⟨h0,hq⟩:=hgo;have hq':ia t[0]=true:=by simpa [h0] using hq
   obtain⟨m,hm⟩:=pk t h0;have hq2:=(kw t[0]).mp hq';have HN:=ns (show aO (t.extract 1 t.size).data.toList=aO s.data.toList by
    rw [←HD.out,zj t _ m hm,hm];simp [aO,hq'])
   clear hq hq' hm;by_cases h9:t[0].toNat=9
   ·have g1:((t[0].toNat:Int)==9)=true:=by simp [h9]
    clear hq2 h9;go_wp2_with fail;exact⟨⟨t.extract 1 t.size,rfl,by simp;omega,HN.out⟩,by simp [eU];omega⟩
   ·have g1:((t[0].toNat:Int)==9)=false:=by simp;omega
    have g2:((t[0].toNat:Int)==32)=true:=by simp;omega
    clear hq2 h9;go_wp2_with fail;exact⟨⟨t.extract 1 t.size,rfl,by simp;omega,HN.out⟩,by simp [eU];omega⟩
  ·have hT:t.data.toList=aO s.data.toList:=by
    rw [←HD.out];by_cases h0:0 < t.size
    ·obtain⟨m,hm⟩:=pk t h0;have:ia t[0]=false:=by
      cases hq:ia t[0]
      ·rfl
      ·exact absurd ⟨h0,by simp [h0,hq]⟩ hgo
     rw [hm];simp [aO,this]
    ·have hl:t.data.toList.length=t.size:=by simp
     have:t.data.toList=[]:=List.eq_nil_of_length_eq_zero (by omega);rw [this];rfl
   have HT:=ns (show dD t.data.toList=aw s.data.toList by rw [hT,je]);clear hT;by_cases h0:0 < t.size
   case' pos=>
    have hq:ia t[0]=false:=by
     cases hq:ia t[0]
     ·rfl
     ·exact absurd ⟨h0,by simp [h0,hq]⟩ hgo
    have hbl:=kw t[0];rw [hq] at hbl;have g1:((t[0].toNat:Int)==9)=false:=by simp;intro h;have:=hbl.mpr (Or.inl (by omega));cases this
    have g2:((t[0].toNat:Int)==32)=false:=by simp;intro h;have:=hbl.mpr (Or.inr (by omega));cases this
    clear hq hbl
   all_goals
    clear hgo;go_wp2_with fail
    go_loop [0] (fun v=>Cn s v) (fun v=>eU v)
    case atStart=>exact⟨t,rfl,ht,HT.out⟩
    case round=>
     obtain⟨t,rfl,ht,hd⟩:=hrel;have HD:=ns hd;clear hd;by_cases hgo:0 < t.size∧(t[t.size-1]?.map ia)=some true
     ·obtain⟨h0,hq⟩:=hgo;have hq':ia t[t.size-1]=true:=by
       rw [getElem?_pos t (t.size-1) (by omega)] at hq;simpa using hq
      obtain⟨m,hm⟩:=pR t h0;have hq2:=(kw t[t.size-1]).mp hq';have HN:=ns (show dD (t.extract 0 (t.size-1)).data.toList=aw s.data.toList by
       rw [←HD.out,Bo t _ m hm,hm,nz];simp [hq'])
      clear hq hq' hm;have e1:(t.size:Int)-1=((t.size-1:Nat):Int):=by omega
      by_cases h9:t[t.size-1].toNat=9
      ·have g1:((t[t.size-1].toNat:Int)==9)=true:=by simp [h9]
       clear hq2 h9;go_wp2_with fail;exact⟨⟨t.extract 0 (t.size-1),rfl,by simp;omega,HN.out⟩,by simp [eU];omega⟩
      ·have g1:((t[t.size-1].toNat:Int)==9)=false:=by simp;omega
       have g2:((t[t.size-1].toNat:Int)==32)=true:=by simp;omega
       clear hq2 h9;go_wp2_with fail;exact⟨⟨t.extract 0 (t.size-1),rfl,by simp;omega,HN.out⟩,by simp [eU];omega⟩
     ·have hT:t.data.toList=aw s.data.toList:=by
       rw [←HD.out];by_cases h0:0 < t.size
       ·obtain⟨m,hm⟩:=pR t h0;have:ia t[t.size-1]=false:=by
         cases hq:ia t[t.size-1]
         ·rfl
         ·exact absurd ⟨h0,by rw [getElem?_pos t (t.size-1) (by omega)];simp [hq]⟩ hgo
        rw [hm,nz];simp [this]
       ·have hl:t.data.toList.length=t.size:=by simp
        have:t.data.toList=[]:=List.eq_nil_of_length_eq_zero (by omega);rw [this];rfl
      have HT:=ns (show (⟨(aw s.data.toList).toArray⟩:ByteArray)=t by rw [←hT]);clear hT;by_cases h0:0 < t.size
      case' pos=>
       have e1:(t.size:Int)-1=((t.size-1:Nat):Int):=by omega
       have hq:ia t[t.size-1]=false:=by
        cases hq:ia t[t.size-1]
        ·rfl
        ·exact absurd ⟨h0,by rw [getElem?_pos t (t.size-1) (by omega)];simp [hq]⟩ hgo
       have hbl:=kw t[t.size-1];rw [hq] at hbl;have g1:((t[t.size-1].toNat:Int)==9)=false:=by simp;intro h;have:=hbl.mpr (Or.inl (by omega));cases this
       have g2:((t[t.size-1].toNat:Int)==32)=false:=by simp;intro h;have:=hbl.mpr (Or.inr (by omega));cases this
       clear hq hbl
      all_goals
       clear hgo;go_wp2_with fail;go_ret;exact⟨by rw [HT.out];rfl,rfl⟩
end Go.Proofs.YtcflkcbogofgbaaGreatDoor
