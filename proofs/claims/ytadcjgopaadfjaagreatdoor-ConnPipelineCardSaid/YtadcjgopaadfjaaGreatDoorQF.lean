import Derived.Test.YtadcjgopaadfjaaGreatDoorQA
import Derived.Deep.RegionHeld3
import Derived.Deep.DeepCutAuto
import Derived.Deep.CutBlock
import Derived.Lib.IndexLaws
set_option maxHeartbeats 2000000
namespace Go.Proofs.YtadcjgopaadfjaaGreatDoor
open Go.RowKit Go.Proofs
theorem cH{f:FuncId}{args:Array Value}{w:World}{v:Value}(h:Calls Tryz.prog f args w fun e w'=>e=.returned v∧w=w'):Calls Tryz.prog f args w fun e w'=>e=.returned v∧w'=w:=
 h.mono fun _ _ ⟨a,b⟩=>⟨a,b.symm⟩
theorem wQ(r v:ByteArray):r.toList=v.toList↔r.data=v.data:=by rw [Go.ByteArray.toList_eq,Go.ByteArray.toList_eq];exact Array.toList_inj
def Df(n v:List UInt8):Bool:=bo n&&(di v&&ay v==v)
theorem cU{s:ByteArray}{r:Bool}(h:Hid (bo s.data.toList=r))(hs:s.size≤1000000)(w:World):Calls Tryz.prog 85 #[.string s] w fun e w'=>e=.returned (.bool r)∧w=w':=by
 rw [←h.out];exact rE s (by omega) w
theorem ca{s:ByteArray}{r:Bool}(h:Hid (di s.data.toList=r))(hs:s.size≤1000000)(w:World):Calls Tryz.prog 80 #[.string s] w fun e w'=>e=.returned (.bool r)∧w=w':=by
 rw [←h.out];exact lC s (by omega) w
theorem fA{s r:ByteArray}(h:Hid ((⟨(ay s.data.toList).toArray⟩:ByteArray)=r))(hs:s.size≤1000000)(w:World):Calls Tryz.prog 81 #[.string s] w fun e w'=>e=.returned (.string r)∧Sm No w w':=by
 rw [←h.out];exact mI s (by omega) w
theorem kz{s:ByteArray}{r:Bool}(h:Hid (bo s.data.toList=r))(hs:s.size≤1000000)(w:World):Calls Tryz.prog 93 #[.string s] w fun e w'=>e=.returned (.bool r)∧w=w':=by
 rw [←h.out];exact pZ s (by omega) w
theorem cF{s:ByteArray}{r:Bool}(h:Hid (di s.data.toList=r))(hs:s.size≤1000000)(w:World):Calls Tryz.prog 61 #[.string s] w fun e w'=>e=.returned (.bool r)∧w=w':=by
 rw [←h.out];exact pP s (by omega) w
theorem ei{s r:ByteArray}(h:Hid ((⟨(ay s.data.toList).toArray⟩:ByteArray)=r))(hs:s.size≤1000000)(w:World):Calls Tryz.prog 62 #[.string s] w fun e w'=>e=.returned (.string r)∧w=w':=by
 rw [←h.out];exact yd s (by omega) w
theorem xO(n v:ByteArray)(hn:n.size≤1000000)(hv:v.size≤1000000)(w:World):
 Calls Tryz.prog 164 #[.agg #[.string n,.string v]] w fun e w'=>e=.returned (.bool (Df n.data.toList v.data.toList))∧Sm No w w':=by
 unfold Df;have hb:=Bk.new w 143 #[.string n,.string v];have c0:=hb.at 0 (v:=.string n) rfl;have c1:=hb.at 1 (v:=.string v) rfl;clear hb
 cases h1:bo n.data.toList
 ·have H1:=aa h1;clear h1;go_in;go_wp2_with fail;go_quiet ((go_at_call 85;exact Calls.quiet_of_same (cH (cU H1 hn _))))
  go_wp2
  go_ret;exact⟨rfl,((Sm.refl No w).alloc _).drewN _⟩
 ·have H1:=aa h1;clear h1
  cases h2:di v.data.toList
  ·have H2:=aa h2;clear h2;go_in;go_wp2_with fail;go_quiet ((first
    |(go_at_call 85;exact Calls.quiet_of_same (cH (cU H1 hn _)))
    |(go_at_call 80;exact Calls.quiet_of_same (cH (ca H2 hv _)))))
   go_wp2
   go_ret;exact⟨rfl,((Sm.refl No w).alloc _).drewN _⟩
  ·have H2:=aa h2;obtain⟨r,hr⟩:=ai ((⟨(ay v.data.toList).toArray⟩:ByteArray));have hq:(ay v.data.toList==v.data.toList)=(r.data.toList==v.data.toList):=by rw [←hr]
   rw [hq];have HR:=aa hr;clear h2 hq hr;have hz:w.heap.size < (w.alloc (.cells #[.string n,.string v] 143)).heap.size:=by simp
   generalize hw:w.alloc (.cells #[.string n,.string v] 143)=w0 at c0 c1 hz;have hsm:Sm No w w0:=by rw [←hw];exact(Sm.refl No w).alloc _
   have HW:=aa hw;clear hw;go_in;go_wp2_with fail;rw [HW.out]
   go_region_held3 (fun w'=>w'.cell? ⟨w.heap.size,0,none⟩=some (.string n)∧w'.cell? ⟨w.heap.size,1,none⟩=some (.string v)) (first|exact⟨c0,c1⟩|exact⟨c4,c5⟩)
    (first
     |(go_at_call 85;(with_reducible refine(cU H1 hn _).mono ?_);rintro e w4 ⟨rfl,rfl⟩)
     |(go_at_call 80;(with_reducible refine(ca H2 hv _).mono ?_);rintro e w4 ⟨rfl,rfl⟩)
     |(go_at_call 81;(with_reducible refine(fA HR hv _).mono ?_);rintro e w4 ⟨rfl,hs4⟩;have hs5:=(hsm.drew.tt hs4);have c4:=hs4.cell (by simpa using hz) c0;have c5:=hs4.cell (by simpa using hz) c1))
   all_goals go_wp2_with fail
   all_goals go_ret
   all_goals exact⟨dU (by simp [wQ]),hs5⟩
theorem index_one(s:ByteArray)(c:UInt8)(w:World)(r:Int)(h:Hid (Lib.indexByte s.data.toList c=r)):Calls Tryz.prog 193 #[.string s,.string ⟨#[c]⟩] w fun e w'=>e=.returned (.int .i64 r)∧w=w':=by
 rw [←h.out];exact(Tryz.stringslite_Index_one s c w).mono fun _ _ ⟨a,b⟩=>⟨a,b.symm⟩
theorem zK(s:ByteArray)(c:UInt8)(w:World)(h:Hid (Lib.indexByte s.data.toList c= -1)):
 Calls Tryz.prog 256 #[.string s,.string ⟨#[c]⟩] w fun e w'=>e=.returned (.tuple #[.string s,.string ⟨#[]⟩,.bool false])∧w=w':=by
 go_in;go_wp2_with fail;refine(index_one s c _ _ h).mono ?_;rintro e w' ⟨rfl,rfl⟩;go_wp2_with fail;exact bodyPost_ret (v:=.tuple #[.string s,.string ⟨#[]⟩,.bool false]) (by simp [results,Tryz.results256,go_sem]) rfl ⟨rfl,rfl⟩
theorem yB(s:ByteArray)(c:UInt8)(w:World)(i:Nat)(hi:i < s.size)(hs:s.size≤1000000)(h:Hid (Lib.indexByte s.data.toList c=i)):
 Calls Tryz.prog 256 #[.string s,.string ⟨#[c]⟩] w fun e w'=>e=.returned (.tuple #[.string (s.extract 0 i),.string (s.extract (i+1) s.size),.bool true])∧∃ n,w'=w.drewN n:=by
 have e1:IntKind.i64.wrap ((i:Int)+1)=((i+1:Nat):Int):=by rw [IntWalk.i64_in _ (by omega)];omega
 have hi2:i+1≤s.size:=hi;go_in;go_wp2_with fail;refine(index_one s c _ _ h).mono ?_;rintro e w' ⟨rfl,rfl⟩;go_wp2_with fail;go_quiet (fail)
 go_wp2
 exact bodyPost_ret (v:=.tuple #[.string (s.extract 0 i),.string (s.extract (i+1) s.size),.bool true]) (by simp [results,Tryz.results256,go_sem]) rfl ⟨rfl,_,rfl⟩
theorem nI(s:ByteArray)(c:UInt8)(w:World)(h:Hid (Lib.indexByte s.data.toList c= -1)):
 Calls Tryz.prog 247 #[.string s,.string ⟨#[c]⟩] w fun e w'=>e=.returned (.tuple #[.string s,.string ⟨#[]⟩,.bool false])∧w=w':=by
 go_in;go_wp2_with fail;refine(zK s c _ h).mono ?_;rintro e w' ⟨rfl,rfl⟩;go_wp2_with fail;exact bodyPost_ret (v:=.tuple #[.string s,.string ⟨#[]⟩,.bool false]) (by simp [results,Tryz.results247,go_sem]) rfl ⟨rfl,rfl⟩
theorem mU(s:ByteArray)(c:UInt8)(w:World)(i:Nat)(hi:i < s.size)(hs:s.size≤1000000)(h:Hid (Lib.indexByte s.data.toList c=i)):
 Calls Tryz.prog 247 #[.string s,.string ⟨#[c]⟩] w fun e w'=>e=.returned (.tuple #[.string (s.extract 0 i),.string (s.extract (i+1) s.size),.bool true])∧∃ n,w'=w.drewN n:=by
 go_in;go_wp2_with fail;refine(yB s c _ i hi hs h).mono ?_;rintro e w' ⟨rfl,n,rfl⟩;go_wp2_with fail;exact bodyPost_ret (v:=.tuple #[.string (s.extract 0 i),.string (s.extract (i+1) s.size),.bool true]) (by simp [results,Tryz.results247,go_sem]) rfl ⟨rfl,_,rfl⟩
def bf(l:List UInt8):Int × List UInt8 × List UInt8:=
 if 256 < l.length then (9,[],[])
 else if Lib.indexByte l 58= -1 then (8,[],[])
 else if Df (l.take (Lib.indexByte l 58).toNat) (ay (l.drop ((Lib.indexByte l 58).toNat+1)))=true then (0,l.take (Lib.indexByte l 58).toNat,ay (l.drop ((Lib.indexByte l 58).toNat+1)))
 else (8,[],[])
def wK(n v:List UInt8):Value:=.agg #[.string ⟨n.toArray⟩,.string ⟨v.toArray⟩]
def mS(p:Int × List UInt8 × List UInt8):Value:=.tuple #[wK p.2.1 p.2.2,.int .i64 p.1]
theorem mx(l:List UInt8)(c:UInt8)(i:Nat)(h:Lib.indexByte l c=i):i < l.length:=by
 have:=(Lib.indexByte_some h).1;exact(List.getElem?_eq_some_iff.mp this).1
theorem ce(l:List UInt8)(c:UInt8):Lib.indexByte l c= -1∨∃ i:Nat,Lib.indexByte l c=i:=by
 have:=Lib.indexByte_ge l c;by_cases h:Lib.indexByte l c= -1
 ·exact Or.inl h
 ·exact Or.inr ⟨(Lib.indexByte l c).toNat,by omega⟩
theorem lh{n v:ByteArray}{r:Bool}(h:Hid (Df n.data.toList v.data.toList=r))(hn:n.size≤1000000)(hv:v.size≤1000000)(w:World):
 Calls Tryz.prog 164 #[.agg #[.string n,.string v]] w fun e w'=>e=.returned (.bool r)∧Sm No w w':=by
 rw [←h.out];exact xO n v hn hv w
theorem Bq(l:List UInt8):(dh l).length≤l.length:=by
 unfold dh;have:=(List.dropWhile_sublist io (l:=l.reverse)).length_le;simpa using this
theorem iG(l:List UInt8):(ay l).length≤l.length:=by
 rw [it];exact Nat.le_trans (Bq _) ((List.dropWhile_sublist io (l:=l)).length_le)
theorem pi(s:ByteArray)(hs:s.size≤1000000)(w:World):
 Calls Tryz.prog 231 #[.string s] w fun e w'=>e=.returned (mS (bf s.data.toList))∧Sm No w w':=by
 have hlen:s.data.toList.length=s.size:=by simp
 by_cases h1:256 < s.size
 ·have hp:bf s.data.toList=(9,[],[]):=by unfold bf;rw [if_pos (by omega)]
  rw [hp];clear hp hlen;unfold mS wK;go_in;go_wp2_with fail;exact bodyPost_ret (v:=.tuple #[.agg #[.string ⟨#[]⟩,.string ⟨#[]⟩],.int .i64 9]) (by simp [results,Tryz.results231,go_sem]) rfl ⟨rfl,(Sm.refl No w).alloc _⟩
 ·rcases ce s.data.toList 58 with h2|⟨i,h2⟩
  ·have hp:bf s.data.toList=(8,[],[]):=by unfold bf;rw [if_neg (by omega),if_pos h2]
   have H2:=aa h2;rw [hp];clear hp hlen h2;unfold mS wK;go_in;go_wp2_with fail;refine(nI s 58 _ H2).mono ?_;rintro e w1 ⟨rfl,rfl⟩;go_wp2_with fail;refine(mI _ (by decide) _).mono ?_;rintro e w1 ⟨rfl,hs1⟩;have hb1:=(Bk.new w 143 #[.string ⟨#[]⟩,.string ⟨#[]⟩]).sm hs1 (fun h=>h);have c0:=hb1.at 0 (v:=.string ⟨#[]⟩) rfl;have c1:=hb1.at 1 (v:=.string ⟨#[]⟩) rfl;have z0:=hb1.fz 0;have z1:=hb1.fz 1;have hz:=hb1.lt;go_wp2_with fail;exact bodyPost_ret (v:=.tuple #[.agg #[.string ⟨#[]⟩,.string ⟨#[]⟩],.int .i64 8]) (by simp [results,Tryz.results231,go_sem,c0,c1,hz]) rfl
    ⟨rfl,(((((Sm.refl No w).alloc _).tt hs1).setN (Nat.le_refl _) _ _).setN (Nat.le_refl _) _ _).alloc _⟩
  ·have hi:=mx _ _ _ h2;have hp:bf s.data.toList=if Df (s.data.toList.take i) (ay (s.data.toList.drop (i+1)))=true then (0,s.data.toList.take i,ay (s.data.toList.drop (i+1))) else (8,[],[]):=by
    unfold bf;rw [if_neg (by omega),if_neg (by omega),h2];rfl
   have hA:(s.extract 0 i).data.toList=s.data.toList.take i:=by rw [Lib.extract_data];simp
   have hB:(s.extract (i+1) s.size).data.toList=s.data.toList.drop (i+1):=by rw [Lib.extract_data,List.take_of_length_le (by simp)]
   rw [hp,←hA,←hB];have hr:=iG (s.extract (i+1) s.size).data.toList;have hR:(⟨(ay (s.extract (i+1) s.size).data.toList).toArray⟩:ByteArray).data.toList=ay (s.extract (i+1) s.size).data.toList:=rfl;have hrs:(⟨(ay (s.extract (i+1) s.size).data.toList).toArray⟩:ByteArray).size≤1000000:=by
    show (ay (s.extract (i+1) s.size).data.toList).toArray.size≤1000000;rw [hB] at hr;simp only [List.size_toArray,hB];simp at hr;omega
   have hbs:(s.extract 0 i).size≤1000000:=by simp;omega
   have HT:=mI (s.extract (i+1) s.size) (by simp;omega);obtain⟨r,hr'⟩:=ai ((⟨(ay (s.extract (i+1) s.size).data.toList).toArray⟩:ByteArray));rw [hr'] at hR hrs HT;rw [←hR];have H2:=aa h2;rw [hlen] at hi;have hC:=fun w=>mU s 58 w i hi hs H2;generalize s.extract 0 i=a at hC hbs ⊢;generalize s.extract (i+1) s.size=b at hC HT;clear hp hlen h2 hA hB hr hR hr';have HT':=aa HT;have HC':=aa hC;clear HT hC
   cases hf:Df a.data.toList r.data.toList
   ·have HF:=aa hf;clear hf;go_in;go_wp2_with fail;refine(HC'.out _).mono ?_;rintro e w1 ⟨rfl,n,rfl⟩;have hs0:=((Sm.refl No w).alloc (.cells #[.string ⟨#[]⟩,.string ⟨#[]⟩] 143)).drewN n;have hb0:=(Bk.new w 143 #[.string ⟨#[]⟩,.string ⟨#[]⟩]).drewN n;generalize (w.alloc (.cells #[.string ⟨#[]⟩,.string ⟨#[]⟩] 143)).drewN n=w1 at hs0 hb0 ⊢;go_wp2_with fail;refine(HT'.out _).mono ?_;rintro e w2 ⟨rfl,hs2⟩;have hb2:=hb0.sm hs2 (fun h=>h);have hs3:=hs0.tt hs2;have hz2:=hb2.lt;go_wp2_with fail;refine(lh HF hbs hrs _).mono ?_;rintro e w3 ⟨rfl,hs4⟩;have hb3:=(hb2.alloc _).sm hs4 (fun h=>h);have hs5:=(hs3.alloc _).tt hs4;have c0:=hb3.at 0 (v:=.string ⟨#[]⟩) rfl;have c1:=hb3.at 1 (v:=.string ⟨#[]⟩) rfl;have z0:=hb3.fz 0;have z1:=hb3.fz 1;go_wp2_with fail;exact bodyPost_ret (v:=.tuple #[.agg #[.string ⟨#[]⟩,.string ⟨#[]⟩],.int .i64 8]) (by simp [results,Tryz.results231,go_sem,c0,c1]) rfl
     ⟨rfl,((hs5).setN (Nat.le_refl _) _ _).setN (Nat.le_refl _) _ _⟩
   ·have HF:=aa hf;clear hf;go_in;go_wp2_with fail;refine(HC'.out _).mono ?_;rintro e w1 ⟨rfl,n,rfl⟩;have hs0:=((Sm.refl No w).alloc (.cells #[.string ⟨#[]⟩,.string ⟨#[]⟩] 143)).drewN n;have hb0:=(Bk.new w 143 #[.string ⟨#[]⟩,.string ⟨#[]⟩]).drewN n;generalize (w.alloc (.cells #[.string ⟨#[]⟩,.string ⟨#[]⟩] 143)).drewN n=w1 at hs0 hb0 ⊢;go_wp2_with fail;refine(HT'.out _).mono ?_;rintro e w2 ⟨rfl,hs2⟩;have hb2:=hb0.sm hs2 (fun h=>h);have hs3:=hs0.tt hs2;have hz2:=hb2.lt;go_wp2_with fail;refine(lh HF hbs hrs _).mono ?_;rintro e w3 ⟨rfl,hs4⟩;have hb3:=(hb2.alloc _).sm hs4 (fun h=>h);have hb4:=(Bk.new w2 143 #[.string a,.string r]).sm hs4 (fun h=>h);have hs5:=(hs3.alloc _).tt hs4;have c0:=hb3.at 0 (v:=.string ⟨#[]⟩) rfl;have c1:=hb3.at 1 (v:=.string ⟨#[]⟩) rfl;have z0:=hb3.fz 0;have z1:=hb3.fz 1;have d0:=hb4.at 0 (v:=.string a) rfl;have d1:=hb4.at 1 (v:=.string r) rfl;have e0:a=⟨a.data.toList.toArray⟩:=rfl;go_wp2_with fail;exact bodyPost_ret (v:=.tuple #[.agg #[.string a,.string r],.int .i64 0]) (by simp [results,Tryz.results231,go_sem,c0,c1]) rfl
     ⟨rfl,((hs5).setN (Nat.le_refl _) _ _).setN (Nat.le_refl _) _ _⟩
end Go.Proofs.YtadcjgopaadfjaaGreatDoor
