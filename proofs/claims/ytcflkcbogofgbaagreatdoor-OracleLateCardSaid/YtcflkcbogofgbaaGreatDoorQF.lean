import Derived.Test.YtcflkcbogofgbaaGreatDoorQA
import Derived.Deep.RegionHeld3
import Derived.Deep.DeepCutAuto
import Derived.Deep.CutBlock
import Derived.Lib.IndexLaws
set_option maxHeartbeats 2000000
namespace Go.Proofs.YtcflkcbogofgbaaGreatDoor
open Go.RowKit Go.Proofs
theorem bD{f:FuncId}{args:Array Value}{w:World}{v:Value}(h:Calls Tryz.prog f args w fun e w'=>e=.returned v∧w=w'):Calls Tryz.prog f args w fun e w'=>e=.returned v∧w'=w:=
 h.mono fun _ _ ⟨a,b⟩=>⟨a,b.symm⟩
theorem ni(r v:ByteArray):r.toList=v.toList↔r.data=v.data:=by rw [Go.ByteArray.toList_eq,Go.ByteArray.toList_eq];exact Array.toList_inj
def vf(n v:List UInt8):Bool:=bP n&&(eg v&&aw v==v)
theorem dq{s:ByteArray}{r:Bool}(h:Hid (bP s.data.toList=r))(hs:s.size≤1000000)(w:World):Calls Tryz.prog 104 #[.string s] w fun e w'=>e=.returned (.bool r)∧w=w':=by
 rw [←h.out];exact tm s (by omega) w
theorem cC{s:ByteArray}{r:Bool}(h:Hid (eg s.data.toList=r))(hs:s.size≤1000000)(w:World):Calls Tryz.prog 100 #[.string s] w fun e w'=>e=.returned (.bool r)∧w=w':=by
 rw [←h.out];exact mC s (by omega) w
theorem fO{s r:ByteArray}(h:Hid ((⟨(aw s.data.toList).toArray⟩:ByteArray)=r))(hs:s.size≤1000000)(w:World):Calls Tryz.prog 71 #[.string s] w fun e w'=>e=.returned (.string r)∧Sm No w w':=by
 rw [←h.out];exact oO s (by omega) w
theorem ez{s:ByteArray}{r:Bool}(h:Hid (bP s.data.toList=r))(hs:s.size≤1000000)(w:World):Calls Tryz.prog 131 #[.string s] w fun e w'=>e=.returned (.bool r)∧w=w':=by
 rw [←h.out];exact rQ s (by omega) w
theorem lu{s:ByteArray}{r:Bool}(h:Hid (eg s.data.toList=r))(hs:s.size≤1000000)(w:World):Calls Tryz.prog 82 #[.string s] w fun e w'=>e=.returned (.bool r)∧w=w':=by
 rw [←h.out];exact rI s (by omega) w
theorem lT{s r:ByteArray}(h:Hid ((⟨(aw s.data.toList).toArray⟩:ByteArray)=r))(hs:s.size≤1000000)(w:World):Calls Tryz.prog 83 #[.string s] w fun e w'=>e=.returned (.string r)∧w=w':=by
 rw [←h.out];exact zJ s (by omega) w
theorem zG(n v:ByteArray)(hn:n.size≤1000000)(hv:v.size≤1000000)(w:World):
 Calls Tryz.prog 155 #[.agg #[.string n,.string v]] w fun e w'=>e=.returned (.bool (vf n.data.toList v.data.toList))∧Sm No w w':=by
 unfold vf;have hb:=Bk.new w 129 #[.string n,.string v];have c0:=hb.at 0 (v:=.string n) rfl;have c1:=hb.at 1 (v:=.string v) rfl;clear hb
 cases h1:bP n.data.toList
 ·have H1:=ns h1;clear h1;go_in;go_wp2_with fail;go_quiet ((go_at_call 104;exact Calls.quiet_of_same (bD (dq H1 hn _))))
  go_wp2
  go_ret;exact⟨rfl,((Sm.refl No w).alloc _).drewN _⟩
 ·have H1:=ns h1;clear h1
  cases h2:eg v.data.toList
  ·have H2:=ns h2;clear h2;go_in;go_wp2_with fail;go_quiet ((first
    |(go_at_call 104;exact Calls.quiet_of_same (bD (dq H1 hn _)))
    |(go_at_call 100;exact Calls.quiet_of_same (bD (cC H2 hv _)))))
   go_wp2
   go_ret;exact⟨rfl,((Sm.refl No w).alloc _).drewN _⟩
  ·have H2:=ns h2;obtain⟨r,hr⟩:=Iu ((⟨(aw v.data.toList).toArray⟩:ByteArray));have hq:(aw v.data.toList==v.data.toList)=(r.data.toList==v.data.toList):=by rw [←hr]
   rw [hq];have HR:=ns hr;clear h2 hq hr;have hz:w.heap.size < (w.alloc (.cells #[.string n,.string v] 129)).heap.size:=by simp
   generalize hw:w.alloc (.cells #[.string n,.string v] 129)=w0 at c0 c1 hz;have hsm:Sm No w w0:=by rw [←hw];exact(Sm.refl No w).alloc _
   have HW:=ns hw;clear hw;go_in;go_wp2_with fail;rw [HW.out]
   go_region_held3 (fun w'=>w'.cell? ⟨w.heap.size,0,none⟩=some (.string n)∧w'.cell? ⟨w.heap.size,1,none⟩=some (.string v)) (first|exact⟨c0,c1⟩|exact⟨c4,c5⟩)
    (first
     |(go_at_call 104;(with_reducible refine(dq H1 hn _).mono ?_);rintro e w4 ⟨rfl,rfl⟩)
     |(go_at_call 100;(with_reducible refine(cC H2 hv _).mono ?_);rintro e w4 ⟨rfl,rfl⟩)
     |(go_at_call 71;(with_reducible refine(fO HR hv _).mono ?_);rintro e w4 ⟨rfl,hs4⟩;have hs5:=(hsm.drew.tt hs4);have c4:=hs4.cell (by simpa using hz) c0;have c5:=hs4.cell (by simpa using hz) c1))
   all_goals go_wp2_with fail
   all_goals go_ret
   all_goals exact⟨dk (by simp [ni]),hs5⟩
theorem FK(n v:ByteArray)(hn:n.size≤1000000)(hv:v.size≤1000000)(w:World):
 Calls Tryz.prog 136 #[.agg #[.string n,.string v]] w fun e w'=>e=.returned (.bool (vf n.data.toList v.data.toList))∧Sm No w w':=by
 unfold vf;have hb:=Bk.new w 129 #[.string n,.string v];have c0:=hb.at 0 (v:=.string n) rfl;have c1:=hb.at 1 (v:=.string v) rfl;clear hb
 cases h1:bP n.data.toList
 ·have H1:=ns h1;clear h1;go_in;go_wp2_with fail;go_quiet ((go_at_call 131;exact Calls.quiet_of_same (bD (ez H1 hn _))))
  go_wp2
  go_ret;exact⟨rfl,((Sm.refl No w).alloc _).drewN _⟩
 ·have H1:=ns h1;clear h1
  cases h2:eg v.data.toList
  ·have H2:=ns h2;clear h2;go_in;go_wp2_with fail;go_quiet ((first
    |(go_at_call 131;exact Calls.quiet_of_same (bD (ez H1 hn _)))
    |(go_at_call 82;exact Calls.quiet_of_same (bD (lu H2 hv _)))))
   go_wp2
   go_ret;exact⟨rfl,((Sm.refl No w).alloc _).drewN _⟩
  ·have H2:=ns h2;obtain⟨r,hr⟩:=Iu ((⟨(aw v.data.toList).toArray⟩:ByteArray));have hq:(aw v.data.toList==v.data.toList)=(r.data.toList==v.data.toList):=by rw [←hr]
   rw [hq];have HR:=ns hr;clear h2 hq hr;go_in;go_wp2_with fail;go_quiet ((first
    |(go_at_call 131;exact Calls.quiet_of_same (bD (ez H1 hn _)))
    |(go_at_call 82;exact Calls.quiet_of_same (bD (lu H2 hv _)))
    |(go_at_call 83;exact Calls.quiet_of_same (bD (lT HR hv _)))))
   go_wp2
   go_ret;exact⟨dk (by simp [ni]),((Sm.refl No w).alloc _).drewN _⟩
theorem index_one(s:ByteArray)(c:UInt8)(w:World)(r:Int)(h:Hid (Lib.indexByte s.data.toList c=r)):Calls Tryz.prog 249 #[.string s,.string ⟨#[c]⟩] w fun e w'=>e=.returned (.int .i64 r)∧w=w':=by
 rw [←h.out];exact(Tryz.stringslite_Index_one s c w).mono fun _ _ ⟨a,b⟩=>⟨a,b.symm⟩
theorem Be(s:ByteArray)(c:UInt8)(w:World)(h:Hid (Lib.indexByte s.data.toList c= -1)):
 Calls Tryz.prog 293 #[.string s,.string ⟨#[c]⟩] w fun e w'=>e=.returned (.tuple #[.string s,.string ⟨#[]⟩,.bool false])∧w=w':=by
 go_in;go_wp2_with fail;refine(index_one s c _ _ h).mono ?_;rintro e w' ⟨rfl,rfl⟩;go_wp2_with fail;exact bodyPost_ret (v:=.tuple #[.string s,.string ⟨#[]⟩,.bool false]) (by simp [results,Tryz.results293,go_sem]) rfl ⟨rfl,rfl⟩
theorem zv(s:ByteArray)(c:UInt8)(w:World)(i:Nat)(hi:i < s.size)(hs:s.size≤1000000)(h:Hid (Lib.indexByte s.data.toList c=i)):
 Calls Tryz.prog 293 #[.string s,.string ⟨#[c]⟩] w fun e w'=>e=.returned (.tuple #[.string (s.extract 0 i),.string (s.extract (i+1) s.size),.bool true])∧∃ n,w'=w.drewN n:=by
 have e1:IntKind.i64.wrap ((i:Int)+1)=((i+1:Nat):Int):=by rw [IntWalk.i64_in _ (by omega)];omega
 have hi2:i+1≤s.size:=hi;go_in;go_wp2_with fail;refine(index_one s c _ _ h).mono ?_;rintro e w' ⟨rfl,rfl⟩;go_wp2_with fail;go_quiet (fail)
 go_wp2
 exact bodyPost_ret (v:=.tuple #[.string (s.extract 0 i),.string (s.extract (i+1) s.size),.bool true]) (by simp [results,Tryz.results293,go_sem]) rfl ⟨rfl,_,rfl⟩
theorem nF(s:ByteArray)(c:UInt8)(w:World)(h:Hid (Lib.indexByte s.data.toList c= -1)):
 Calls Tryz.prog 282 #[.string s,.string ⟨#[c]⟩] w fun e w'=>e=.returned (.tuple #[.string s,.string ⟨#[]⟩,.bool false])∧w=w':=by
 go_in;go_wp2_with fail;refine(Be s c _ h).mono ?_;rintro e w' ⟨rfl,rfl⟩;go_wp2_with fail;exact bodyPost_ret (v:=.tuple #[.string s,.string ⟨#[]⟩,.bool false]) (by simp [results,Tryz.results282,go_sem]) rfl ⟨rfl,rfl⟩
theorem pt(s:ByteArray)(c:UInt8)(w:World)(i:Nat)(hi:i < s.size)(hs:s.size≤1000000)(h:Hid (Lib.indexByte s.data.toList c=i)):
 Calls Tryz.prog 282 #[.string s,.string ⟨#[c]⟩] w fun e w'=>e=.returned (.tuple #[.string (s.extract 0 i),.string (s.extract (i+1) s.size),.bool true])∧∃ n,w'=w.drewN n:=by
 go_in;go_wp2_with fail;refine(zv s c _ i hi hs h).mono ?_;rintro e w' ⟨rfl,n,rfl⟩;go_wp2_with fail;exact bodyPost_ret (v:=.tuple #[.string (s.extract 0 i),.string (s.extract (i+1) s.size),.bool true]) (by simp [results,Tryz.results282,go_sem]) rfl ⟨rfl,_,rfl⟩
def aL(l:List UInt8):Int × List UInt8 × List UInt8:=
 if 256 < l.length then (9,[],[])
 else if Lib.indexByte l 58= -1 then (8,[],[])
 else if vf (l.take (Lib.indexByte l 58).toNat) (aw (l.drop ((Lib.indexByte l 58).toNat+1)))=true then (0,l.take (Lib.indexByte l 58).toNat,aw (l.drop ((Lib.indexByte l 58).toNat+1)))
 else (8,[],[])
def qP(n v:List UInt8):Value:=.agg #[.string ⟨n.toArray⟩,.string ⟨v.toArray⟩]
def iB(p:Int × List UInt8 × List UInt8):Value:=.tuple #[qP p.2.1 p.2.2,.int .i64 p.1]
theorem kI(l:List UInt8)(c:UInt8)(i:Nat)(h:Lib.indexByte l c=i):i < l.length:=by
 have:=(Lib.indexByte_some h).1;exact(List.getElem?_eq_some_iff.mp this).1
theorem bM(l:List UInt8)(c:UInt8):Lib.indexByte l c= -1∨∃ i:Nat,Lib.indexByte l c=i:=by
 have:=Lib.indexByte_ge l c;by_cases h:Lib.indexByte l c= -1
 ·exact Or.inl h
 ·exact Or.inr ⟨(Lib.indexByte l c).toNat,by omega⟩
theorem mg{n v:ByteArray}{r:Bool}(h:Hid (vf n.data.toList v.data.toList=r))(hn:n.size≤1000000)(hv:v.size≤1000000)(w:World):
 Calls Tryz.prog 155 #[.agg #[.string n,.string v]] w fun e w'=>e=.returned (.bool r)∧Sm No w w':=by
 rw [←h.out];exact zG n v hn hv w
theorem Ei(l:List UInt8):(dD l).length≤l.length:=by
 unfold dD;have:=(List.dropWhile_sublist ia (l:=l.reverse)).length_le;simpa using this
theorem fQ(l:List UInt8):(aw l).length≤l.length:=by
 rw [je];exact Nat.le_trans (Ei _) ((List.dropWhile_sublist ia (l:=l)).length_le)
theorem qa(s:ByteArray)(hs:s.size≤1000000)(w:World):
 Calls Tryz.prog 260 #[.string s] w fun e w'=>e=.returned (iB (aL s.data.toList))∧Sm No w w':=by
 have hlen:s.data.toList.length=s.size:=by simp
 by_cases h1:256 < s.size
 ·have hp:aL s.data.toList=(9,[],[]):=by unfold aL;rw [if_pos (by omega)]
  rw [hp];clear hp hlen;unfold iB qP;go_in;go_wp2_with fail;exact bodyPost_ret (v:=.tuple #[.agg #[.string ⟨#[]⟩,.string ⟨#[]⟩],.int .i64 9]) (by simp [results,Tryz.results260,go_sem]) rfl ⟨rfl,(Sm.refl No w).alloc _⟩
 ·rcases bM s.data.toList 58 with h2|⟨i,h2⟩
  ·have hp:aL s.data.toList=(8,[],[]):=by unfold aL;rw [if_neg (by omega),if_pos h2]
   have H2:=ns h2;rw [hp];clear hp hlen h2;unfold iB qP;go_in;go_wp2_with fail;refine(nF s 58 _ H2).mono ?_;rintro e w1 ⟨rfl,rfl⟩;go_wp2_with fail;refine(oO _ (by decide) _).mono ?_;rintro e w1 ⟨rfl,hs1⟩;have hb1:=(Bk.new w 129 #[.string ⟨#[]⟩,.string ⟨#[]⟩]).sm hs1 (fun h=>h);have c0:=hb1.at 0 (v:=.string ⟨#[]⟩) rfl;have c1:=hb1.at 1 (v:=.string ⟨#[]⟩) rfl;have z0:=hb1.fz 0;have z1:=hb1.fz 1;have hz:=hb1.lt;go_wp2_with fail;exact bodyPost_ret (v:=.tuple #[.agg #[.string ⟨#[]⟩,.string ⟨#[]⟩],.int .i64 8]) (by simp [results,Tryz.results260,go_sem,c0,c1,hz]) rfl
    ⟨rfl,(((((Sm.refl No w).alloc _).tt hs1).setN (Nat.le_refl _) _ _).setN (Nat.le_refl _) _ _).alloc _⟩
  ·have hi:=kI _ _ _ h2;have hp:aL s.data.toList=if vf (s.data.toList.take i) (aw (s.data.toList.drop (i+1)))=true then (0,s.data.toList.take i,aw (s.data.toList.drop (i+1))) else (8,[],[]):=by
    unfold aL;rw [if_neg (by omega),if_neg (by omega),h2];rfl
   have hA:(s.extract 0 i).data.toList=s.data.toList.take i:=by rw [Lib.extract_data];simp
   have hB:(s.extract (i+1) s.size).data.toList=s.data.toList.drop (i+1):=by rw [Lib.extract_data,List.take_of_length_le (by simp)]
   rw [hp,←hA,←hB];have hr:=fQ (s.extract (i+1) s.size).data.toList;have hR:(⟨(aw (s.extract (i+1) s.size).data.toList).toArray⟩:ByteArray).data.toList=aw (s.extract (i+1) s.size).data.toList:=rfl;have hrs:(⟨(aw (s.extract (i+1) s.size).data.toList).toArray⟩:ByteArray).size≤1000000:=by
    show (aw (s.extract (i+1) s.size).data.toList).toArray.size≤1000000;rw [hB] at hr;simp only [List.size_toArray,hB];simp at hr;omega
   have hbs:(s.extract 0 i).size≤1000000:=by simp;omega
   have HT:=oO (s.extract (i+1) s.size) (by simp;omega);obtain⟨r,hr'⟩:=Iu ((⟨(aw (s.extract (i+1) s.size).data.toList).toArray⟩:ByteArray));rw [hr'] at hR hrs HT;rw [←hR];have H2:=ns h2;rw [hlen] at hi;have hC:=fun w=>pt s 58 w i hi hs H2;generalize s.extract 0 i=a at hC hbs ⊢;generalize s.extract (i+1) s.size=b at hC HT;clear hp hlen h2 hA hB hr hR hr';have HT':=ns HT;have HC':=ns hC;clear HT hC
   cases hf:vf a.data.toList r.data.toList
   ·have HF:=ns hf;clear hf;go_in;go_wp2_with fail;refine(HC'.out _).mono ?_;rintro e w1 ⟨rfl,n,rfl⟩;have hs0:=((Sm.refl No w).alloc (.cells #[.string ⟨#[]⟩,.string ⟨#[]⟩] 129)).drewN n;have hb0:=(Bk.new w 129 #[.string ⟨#[]⟩,.string ⟨#[]⟩]).drewN n;generalize (w.alloc (.cells #[.string ⟨#[]⟩,.string ⟨#[]⟩] 129)).drewN n=w1 at hs0 hb0 ⊢;go_wp2_with fail;refine(HT'.out _).mono ?_;rintro e w2 ⟨rfl,hs2⟩;have hb2:=hb0.sm hs2 (fun h=>h);have hs3:=hs0.tt hs2;have hz2:=hb2.lt;go_wp2_with fail;refine(mg HF hbs hrs _).mono ?_;rintro e w3 ⟨rfl,hs4⟩;have hb3:=(hb2.alloc _).sm hs4 (fun h=>h);have hs5:=(hs3.alloc _).tt hs4;have c0:=hb3.at 0 (v:=.string ⟨#[]⟩) rfl;have c1:=hb3.at 1 (v:=.string ⟨#[]⟩) rfl;have z0:=hb3.fz 0;have z1:=hb3.fz 1;go_wp2_with fail;exact bodyPost_ret (v:=.tuple #[.agg #[.string ⟨#[]⟩,.string ⟨#[]⟩],.int .i64 8]) (by simp [results,Tryz.results260,go_sem,c0,c1]) rfl
     ⟨rfl,((hs5).setN (Nat.le_refl _) _ _).setN (Nat.le_refl _) _ _⟩
   ·have HF:=ns hf;clear hf;go_in;go_wp2_with fail;refine(HC'.out _).mono ?_;rintro e w1 ⟨rfl,n,rfl⟩;have hs0:=((Sm.refl No w).alloc (.cells #[.string ⟨#[]⟩,.string ⟨#[]⟩] 129)).drewN n;have hb0:=(Bk.new w 129 #[.string ⟨#[]⟩,.string ⟨#[]⟩]).drewN n;generalize (w.alloc (.cells #[.string ⟨#[]⟩,.string ⟨#[]⟩] 129)).drewN n=w1 at hs0 hb0 ⊢;go_wp2_with fail;refine(HT'.out _).mono ?_;rintro e w2 ⟨rfl,hs2⟩;have hb2:=hb0.sm hs2 (fun h=>h);have hs3:=hs0.tt hs2;have hz2:=hb2.lt;go_wp2_with fail;refine(mg HF hbs hrs _).mono ?_;rintro e w3 ⟨rfl,hs4⟩;have hb3:=(hb2.alloc _).sm hs4 (fun h=>h);have hb4:=(Bk.new w2 129 #[.string a,.string r]).sm hs4 (fun h=>h);have hs5:=(hs3.alloc _).tt hs4;have c0:=hb3.at 0 (v:=.string ⟨#[]⟩) rfl;have c1:=hb3.at 1 (v:=.string ⟨#[]⟩) rfl;have z0:=hb3.fz 0;have z1:=hb3.fz 1;have d0:=hb4.at 0 (v:=.string a) rfl;have d1:=hb4.at 1 (v:=.string r) rfl;have e0:a=⟨a.data.toList.toArray⟩:=rfl;go_wp2_with fail;exact bodyPost_ret (v:=.tuple #[.agg #[.string a,.string r],.int .i64 0]) (by simp [results,Tryz.results260,go_sem,c0,c1]) rfl
     ⟨rfl,((hs5).setN (Nat.le_refl _) _ _).setN (Nat.le_refl _) _ _⟩
end Go.Proofs.YtcflkcbogofgbaaGreatDoor
