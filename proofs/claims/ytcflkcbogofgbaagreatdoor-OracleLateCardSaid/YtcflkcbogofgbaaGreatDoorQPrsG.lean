import Derived.Test.YtcflkcbogofgbaaGreatDoorQP
import Derived.Test.YtcflkcbogofgbaaGreatDoorQC
set_option maxHeartbeats 4000000
set_option maxRecDepth 100000
namespace Go.Proofs.YtcflkcbogofgbaaGreatDoor
open Go.RowKit Go.Proofs
theorem Bk.all{w:World}{g:Nat}{t:TypeId}{cs:Array Value}(h:Bk w g t cs)(i:Nat):w.cell? ⟨g,i,none⟩=cs[i]?:=cell_of_row w g i cs t (0,0) h
theorem Dx(m s:ByteArray)(hs:200 < s.size)(w:World):Calls Tryz.prog 207 #[.string m,.string s] w (aI (none) 9 w):=by
 have i1:(200:Int) < (s.size:Int):=by omega
 go_in;go_wp2_with fail;exact bodyPost_ret (v:=.tuple #[.agg #[.int .i64 0,.string ⟨#[]⟩,.string ⟨#[]⟩,.string ⟨#[]⟩],.int .i64 9]) (by simp [results,Tryz.results207,go_sem]) rfl ⟨(Sm.refl No w).alloc _,by exact rfl⟩
theorem CI(m s:ByteArray)(hs:s.size≤200)(hm:m.toList=[67,79,78,78,69,67,84])(HH:Hid (bR (ab s)=false))(w:World):Calls Tryz.prog 207 #[.string m,.string s] w (aI (none) 8 w):=by
 have i1:¬(200:Int) < (s.size:Int):=by omega
 go_in;go_wp2_with fail;refine(gR HH (by omega) _).mono ?_;rintro e w2 ⟨rfl,rfl⟩;go_wp2_with fail;exact bodyPost_ret (v:=.tuple #[.agg #[.int .i64 0,.string ⟨#[]⟩,.string ⟨#[]⟩,.string ⟨#[]⟩],.int .i64 8]) (by simp [results,Tryz.results207,go_sem]) rfl ⟨(Sm.refl No w).alloc _,by exact rfl⟩
theorem Eu(m s:ByteArray)(hs:s.size≤200)(hm:m.toList=[67,79,78,78,69,67,84])(HH:Hid (bR (ab s)=true))(HI:Hid (lX 58 s.data.toList=false))(w:World):Calls Tryz.prog 207 #[.string m,.string s] w (aI (none) 8 w):=by
 have i1:¬(200:Int) < (s.size:Int):=by omega
 go_in;go_wp2_with fail;refine(gR HH (by omega) _).mono ?_;rintro e w2 ⟨rfl,rfl⟩;go_wp2_with fail;refine(xm HI (by omega) _).mono ?_;rintro e w2 ⟨rfl,rfl⟩;go_wp2_with fail;exact bodyPost_ret (v:=.tuple #[.agg #[.int .i64 0,.string ⟨#[]⟩,.string ⟨#[]⟩,.string ⟨#[]⟩],.int .i64 8]) (by simp [results,Tryz.results207,go_sem]) rfl ⟨(Sm.refl No w).alloc _,by exact rfl⟩
theorem CK(m s:ByteArray)(hs:s.size≤200)(hm:m.toList=[67,79,78,78,69,67,84])(HH:Hid (bR (ab s)=true))(HI:Hid (lX 58 s.data.toList=true))(w:World):Calls Tryz.prog 207 #[.string m,.string s] w (aI (some ⟨3,aU (ab s),[],[]⟩) 8 w):=by
 obtain⟨lB,hlB⟩:=Iu ((⟨(aU s.data.toList).toArray⟩:ByteArray));have HLB:=ns hlB;clear hlB;have i1:¬(200:Int) < (s.size:Int):=by omega
 go_in;go_wp2_with fail;obtain⟨b0,hb0⟩:=Iu w.heap.size;obtain⟨w1,hw1⟩:∃ w1,w.alloc (.cells #[.int .i64 0,.string ⟨#[]⟩,.string ⟨#[]⟩,.string ⟨#[]⟩] 59)=w1:=⟨_,rfl⟩;have hs1:Sm No w w1:=by rw [←hw1];exact(Sm.refl No w).alloc _
 have hb1:Bk w1 b0 59 #[.int .i64 0,.string ⟨#[]⟩,.string ⟨#[]⟩,.string ⟨#[]⟩]:=by rw [←hw1,←hb0];exact Bk.new w _ _
 rw [hw1,hb0];have H1:=ns (BT hs1 (BT hb1 hb0));clear hs1 hb1 hw1 hb0;refine(gR HH (by omega) _).mono ?_;rintro e w2 ⟨rfl,rfl⟩;go_wp2_with fail;refine(xm HI (by omega) _).mono ?_;rintro e w2 ⟨rfl,rfl⟩;go_wp2_with fail;refine(eY HLB (by omega) _).mono ?_;rintro e w3 ⟨rfl,hs3⟩;have HS3:=ns (H1.out.1.tt hs3);have HB3:=ns (H1.out.2.1.sm hs3 (fun h=>h));clear hs3;have hl:=(HB3.out).lt;have hc:=(HB3.out).all;have hf:=(HB3.out).fz;go_wp2_with fail;have HT:=ns (cK (p:=.int .i64 3) (q:=.string lB) (r:=.string ⟨#[]⟩) (x:=.string ⟨#[]⟩) (HS3.out) (HB3.out) (Nat.le_of_eq H1.out.2.2));have hc:=HT.out.2.all;exact bodyPost_ret (v:=.tuple #[.agg #[.int .i64 3,.string lB,.string ⟨#[]⟩,.string ⟨#[]⟩],.int .i64 0]) (by simp [results,Tryz.results207,go_sem,hc]) rfl ⟨HT.out.1,by
  show _=Ending.returned (.tuple #[.agg #[.int .i64 3,.string ⟨(aU (ab s)).toArray⟩,.string ⟨#[]⟩,.string ⟨#[]⟩],.int .i64 0]);rw [show (⟨(aU (ab s)).toArray⟩:ByteArray)=lB from HLB.out]⟩
theorem DH(m s:ByteArray)(hs:s.size≤200)(hm:m.toList=[79,80,84,73,79,78,83])(h:s.toList=[42])(w:World):Calls Tryz.prog 207 #[.string m,.string s] w (aI (some ⟨4,[],[],[]⟩) 8 w):=by
 have i1:¬(200:Int) < (s.size:Int):=by omega
 go_in;go_wp2_with fail;exact bodyPost_ret (v:=.tuple #[.agg #[.int .i64 4,.string ⟨#[]⟩,.string ⟨#[]⟩,.string ⟨#[]⟩],.int .i64 0]) (by simp [results,Tryz.results207,go_sem]) rfl ⟨(Sm.refl No w).alloc _,by exact rfl⟩
theorem zr(m s:ByteArray)(hs:s.size≤200)(hm:m.toList=[79,80,84,73,79,78,83])(h:¬s.toList=[42])(h0:0 < s.size)(hq:s[0]=47)(HO:Hid (cw (ab s)=none))(w:World):Calls Tryz.prog 207 #[.string m,.string s] w (aI (none) 8 w):=by
 have i1:¬(200:Int) < (s.size:Int):=by omega
 have hst:(s.toList==[42])=false:=by simpa using h
 have i2:(0:Int) < (s.size:Int):=by omega
 have e1:((s[0].toNat:Int)==47)=true:=by rw [hq];rfl
 clear hq;go_in;go_wp2_with fail;obtain⟨b0,hb0⟩:=Iu w.heap.size;obtain⟨w1,hw1⟩:∃ w1,w.alloc (.cells #[.int .i64 0,.string ⟨#[]⟩,.string ⟨#[]⟩,.string ⟨#[]⟩] 59)=w1:=⟨_,rfl⟩;have hs1:Sm No w w1:=by rw [←hw1];exact(Sm.refl No w).alloc _
 have hb1:Bk w1 b0 59 #[.int .i64 0,.string ⟨#[]⟩,.string ⟨#[]⟩,.string ⟨#[]⟩]:=by rw [←hw1,←hb0];exact Bk.new w _ _
 rw [hw1,hb0];have H1:=ns (BT hs1 (BT hb1 hb0));clear hs1 hb1 hw1 hb0;have HOg:=dp s (by omega) w1;unfold bW at HOg;rw [HO.out] at HOg;refine HOg.mono ?_;rintro e w3 ⟨hs3,pB,qB,rfl⟩;have HS3:=ns (H1.out.1.tt hs3);have HB3:=ns (H1.out.2.1.sm hs3 (fun h=>h));clear hs3 HOg;have hl:=(HB3.out).lt;have hc:=(HB3.out).all;have hf:=(HB3.out).fz;go_wp2_with fail;have HT:=ns (cK (p:=.int .i64 0) (q:=.string ⟨#[]⟩) (r:=.string ⟨#[]⟩) (x:=.string ⟨#[]⟩) (HS3.out) (HB3.out) (Nat.le_of_eq H1.out.2.2));have hc:=HT.out.2.all;exact bodyPost_ret (v:=.tuple #[.agg #[.int .i64 0,.string ⟨#[]⟩,.string ⟨#[]⟩,.string ⟨#[]⟩],.int .i64 8]) (by simp [results,Tryz.results207,go_sem,hc]) rfl ⟨HT.out.1,by exact rfl⟩
theorem yT(m s:ByteArray)(hs:s.size≤200)(hm:m.toList=[79,80,84,73,79,78,83])(h:¬s.toList=[42])(h0:0 < s.size)(hq:s[0]=47)(p q:af)(HO:Hid (cw (ab s)=some (p,q)))(w:World):Calls Tryz.prog 207 #[.string m,.string s] w (aI (some ⟨1,[],p,q⟩) 8 w):=by
 have i1:¬(200:Int) < (s.size:Int):=by omega
 have hst:(s.toList==[42])=false:=by simpa using h
 have i2:(0:Int) < (s.size:Int):=by omega
 have e1:((s[0].toNat:Int)==47)=true:=by rw [hq];rfl
 clear hq;obtain⟨pB,hpB⟩:=Iu ((⟨p.toArray⟩:ByteArray));obtain⟨qB,hqB⟩:=Iu ((⟨q.toArray⟩:ByteArray));have HPQ:=ns (BT hpB hqB);go_in;go_wp2_with fail;obtain⟨b0,hb0⟩:=Iu w.heap.size;obtain⟨w1,hw1⟩:∃ w1,w.alloc (.cells #[.int .i64 0,.string ⟨#[]⟩,.string ⟨#[]⟩,.string ⟨#[]⟩] 59)=w1:=⟨_,rfl⟩;have hs1:Sm No w w1:=by rw [←hw1];exact(Sm.refl No w).alloc _
 have hb1:Bk w1 b0 59 #[.int .i64 0,.string ⟨#[]⟩,.string ⟨#[]⟩,.string ⟨#[]⟩]:=by rw [←hw1,←hb0];exact Bk.new w _ _
 rw [hw1,hb0];have H1:=ns (BT hs1 (BT hb1 hb0));clear hs1 hb1 hw1 hb0;have HOg:=dp s (by omega) w1;unfold bW at HOg;rw [HO.out] at HOg;refine HOg.mono ?_;dsimp only;rw [hpB,hqB];rintro e w3 ⟨hs3,rfl⟩;clear hpB hqB;have HS3:=ns (H1.out.1.tt hs3);have HB3:=ns (H1.out.2.1.sm hs3 (fun h=>h));clear hs3 HOg;have hl:=(HB3.out).lt;have hc:=(HB3.out).all;have hf:=(HB3.out).fz;go_wp2_with fail;have HT:=ns (cK (p:=.int .i64 1) (q:=.string ⟨#[]⟩) (r:=.string pB) (x:=.string qB) (HS3.out) (HB3.out) (Nat.le_of_eq H1.out.2.2));have hc:=HT.out.2.all;exact bodyPost_ret (v:=.tuple #[.agg #[.int .i64 1,.string ⟨#[]⟩,.string pB,.string qB],.int .i64 0]) (by simp [results,Tryz.results207,go_sem,hc]) rfl ⟨HT.out.1,by
  rw [←HPQ.out.1,←HPQ.out.2];rfl⟩
theorem Ew(m s:ByteArray)(hs:s.size≤200)(hm:m.toList=[79,80,84,73,79,78,83])(h:¬s.toList=[42])(hn:∀ h:0 < s.size,s[0]≠47)(h7:7≤s.size)(HQ:Hid (bA ((ab s).take 7) fy=true))(w:World):Calls Tryz.prog 207 #[.string m,.string s] w (aI (fm ((ab s).drop 7)) 8 w):=by
 have i1:¬(200:Int) < (s.size:Int):=by omega
 have hst:(s.toList==[42])=false:=by simpa using h
 have i2:(0:Int) < (s.size:Int):=by omega
 have h0:0 < s.size:=by omega
 have e1:((s[0].toNat:Int)==47)=false:=aK (n:=47) (by decide) (hn h0);clear hn;obtain⟨pre,hpre⟩:=Iu (s.extract 0 7);have hpz:pre.size≤200:=by rw [←hpre,ByteArray.size_extract];omega
 have hpt:ab pre=(ab s).take 7:=by rw [←hpre,aN,List.drop_zero]
 have HSm:Hid (bA pre.data.toList (⟨#[104,116,116,112,58,47,47]⟩:ByteArray).data.toList=true):=ns (by
  show bA (ab pre) fy=_;rw [hpt];exact HQ.out)
 have i7:(7:Int)≤(s.size:Int):=by omega
 have HPre:=ns hpre;clear hpre hpt;obtain⟨r,hr⟩:=Iu (s.extract 7 s.size);have hrz:r.size≤200:=by rw [←hr,ByteArray.size_extract];omega
 have hrt:ab r=(ab s).drop 7:=by rw [←hr,bQ]
 have HR:=ns hr;rw [←hrt];clear hr hrt;go_in;go_wp2_with fail;obtain⟨b0,hb0⟩:=Iu w.heap.size;obtain⟨w1,hw1⟩:∃ w1,w.alloc (.cells #[.int .i64 0,.string ⟨#[]⟩,.string ⟨#[]⟩,.string ⟨#[]⟩] 59)=w1:=⟨_,rfl⟩;have hs1:Sm No w w1:=by rw [←hw1];exact(Sm.refl No w).alloc _
 have hb1:Bk w1 b0 59 #[.int .i64 0,.string ⟨#[]⟩,.string ⟨#[]⟩,.string ⟨#[]⟩]:=by rw [←hw1,←hb0];exact Bk.new w _ _
 rw [hw1,hb0];have H1:=ns (BT hs1 (BT hb1 hb0));clear hs1 hb1 hw1 hb0;rw [HPre.out];refine(fJ HSm (by omega) (by decide) _).mono ?_;rintro e w3 ⟨rfl,hs3⟩;have HS3:=ns (H1.out.1.tt hs3);have HB3:=ns (H1.out.2.1.sm hs3 (fun h=>h));clear hs3;go_wp2_with fail;rw [HR.out];obtain⟨O,hO⟩:=Iu (fm (ab r));have HAb:=jQ r (by omega) w3;rw [hO] at HAb;have HO:=ns hO;clear hO;refine HAb.mono ?_;clear HAb
 cases O with
 |none=>
  rintro e w4 ⟨hs4,rfl⟩;rw [show G7 ⟨0,[],[],[]⟩=.agg #[.int .i64 0,.string ⟨#[]⟩,.string ⟨#[]⟩,.string ⟨#[]⟩] from rfl];have HS4:=ns (HS3.out.tt hs4);have HB4:=ns (HB3.out.sm hs4 (fun h=>h));clear hs4;have hl:=(HB4.out).lt;have hc:=(HB4.out).all;have hf:=(HB4.out).fz;go_wp2_with fail;have HT:=ns (cK (p:=.int .i64 0) (q:=.string ⟨#[]⟩) (r:=.string ⟨#[]⟩) (x:=.string ⟨#[]⟩) (HS4.out) (HB4.out) (Nat.le_of_eq H1.out.2.2));have hc:=HT.out.2.all;exact bodyPost_ret (v:=.tuple #[.agg #[.int .i64 0,.string ⟨#[]⟩,.string ⟨#[]⟩,.string ⟨#[]⟩],.int .i64 8]) (by simp [results,Tryz.results207,go_sem,hc]) rfl ⟨HT.out.1,by rw [HO.out];exact rfl⟩
 |some t=>
  obtain⟨f,h,p,q⟩:=t;obtain⟨hB,hhB⟩:=Iu ((⟨h.toArray⟩:ByteArray));obtain⟨pB,hpB⟩:=Iu ((⟨p.toArray⟩:ByteArray));obtain⟨qB,hqB⟩:=Iu ((⟨q.toArray⟩:ByteArray));have HPQ:=ns (show G7 ⟨f,h,p,q⟩=.agg #[.int .i64 f,.string hB,.string pB,.string qB] from by rw [←hhB,←hpB,←hqB];rfl);clear hhB hpB hqB;rintro e w4 ⟨hs4,rfl⟩;rw [HPQ.out];have HS4:=ns (HS3.out.tt hs4);have HB4:=ns (HB3.out.sm hs4 (fun h=>h));clear hs4;have hl:=(HB4.out).lt;have hc:=(HB4.out).all;have hf:=(HB4.out).fz;go_wp2_with fail;have HT:=ns (cK (p:=.int .i64 f) (q:=.string hB) (r:=.string pB) (x:=.string qB) (HS4.out) (HB4.out) (Nat.le_of_eq H1.out.2.2));have hc:=HT.out.2.all;exact bodyPost_ret (v:=.tuple #[.agg #[.int .i64 f,.string hB,.string pB,.string qB],.int .i64 0]) (by simp [results,Tryz.results207,go_sem,hc]) rfl ⟨HT.out.1,by rw [HO.out,←HPQ.out]⟩
theorem Cx(m s:ByteArray)(hs:s.size≤200)(hm:m.toList=[79,80,84,73,79,78,83])(h:¬s.toList=[42])(hn:∀ h:0 < s.size,s[0]≠47)(h7:7≤s.size)(HQ:Hid (bA ((ab s).take 7) fy=false))(w:World):Calls Tryz.prog 207 #[.string m,.string s] w (aI (none) 8 w):=by
 have i1:¬(200:Int) < (s.size:Int):=by omega
 have hst:(s.toList==[42])=false:=by simpa using h
 have i2:(0:Int) < (s.size:Int):=by omega
 have h0:0 < s.size:=by omega
 have e1:((s[0].toNat:Int)==47)=false:=aK (n:=47) (by decide) (hn h0);clear hn;obtain⟨pre,hpre⟩:=Iu (s.extract 0 7);have hpz:pre.size≤200:=by rw [←hpre,ByteArray.size_extract];omega
 have hpt:ab pre=(ab s).take 7:=by rw [←hpre,aN,List.drop_zero]
 have HSm:Hid (bA pre.data.toList (⟨#[104,116,116,112,58,47,47]⟩:ByteArray).data.toList=false):=ns (by
  show bA (ab pre) fy=_;rw [hpt];exact HQ.out)
 have i7:(7:Int)≤(s.size:Int):=by omega
 have HPre:=ns hpre;clear hpre hpt;go_in;go_wp2_with fail;obtain⟨b0,hb0⟩:=Iu w.heap.size;obtain⟨w1,hw1⟩:∃ w1,w.alloc (.cells #[.int .i64 0,.string ⟨#[]⟩,.string ⟨#[]⟩,.string ⟨#[]⟩] 59)=w1:=⟨_,rfl⟩;have hs1:Sm No w w1:=by rw [←hw1];exact(Sm.refl No w).alloc _
 have hb1:Bk w1 b0 59 #[.int .i64 0,.string ⟨#[]⟩,.string ⟨#[]⟩,.string ⟨#[]⟩]:=by rw [←hw1,←hb0];exact Bk.new w _ _
 rw [hw1,hb0];have H1:=ns (BT hs1 (BT hb1 hb0));clear hs1 hb1 hw1 hb0;rw [HPre.out];refine(fJ HSm (by omega) (by decide) _).mono ?_;rintro e w3 ⟨rfl,hs3⟩;have HS3:=ns (H1.out.1.tt hs3);have HB3:=ns (H1.out.2.1.sm hs3 (fun h=>h));clear hs3;have hl:=(HB3.out).lt;have hc:=(HB3.out).all;have hf:=(HB3.out).fz;go_wp2_with fail;have HT:=ns (cK (p:=.int .i64 0) (q:=.string ⟨#[]⟩) (r:=.string ⟨#[]⟩) (x:=.string ⟨#[]⟩) (HS3.out) (HB3.out) (Nat.le_of_eq H1.out.2.2));have hc:=HT.out.2.all;exact bodyPost_ret (v:=.tuple #[.agg #[.int .i64 0,.string ⟨#[]⟩,.string ⟨#[]⟩,.string ⟨#[]⟩],.int .i64 8]) (by simp [results,Tryz.results207,go_sem,hc]) rfl ⟨HT.out.1,by exact rfl⟩
theorem C2(m s:ByteArray)(hs:s.size≤200)(hm:m.toList=[79,80,84,73,79,78,83])(h:¬s.toList=[42])(h7:s.size=0)(w:World):Calls Tryz.prog 207 #[.string m,.string s] w (aI (none) 8 w):=by
 have i1:¬(200:Int) < (s.size:Int):=by omega
 have hst:(s.toList==[42])=false:=by simpa using h
 have i2:¬(0:Int) < (s.size:Int):=by omega
 have i7:¬(7:Int)≤(s.size:Int):=by omega
 clear h7;go_in;go_wp2_with fail;exact bodyPost_ret (v:=.tuple #[.agg #[.int .i64 0,.string ⟨#[]⟩,.string ⟨#[]⟩,.string ⟨#[]⟩],.int .i64 8]) (by simp [results,Tryz.results207,go_sem]) rfl ⟨(Sm.refl No w).alloc _,by exact rfl⟩
theorem Ee(m s:ByteArray)(hs:s.size≤200)(hm:m.toList=[79,80,84,73,79,78,83])(h:¬s.toList=[42])(hn:∀ h:0 < s.size,s[0]≠47)(h0:0 < s.size)(h7:s.size < 7)(w:World):Calls Tryz.prog 207 #[.string m,.string s] w (aI (none) 8 w):=by
 have i1:¬(200:Int) < (s.size:Int):=by omega
 have hst:(s.toList==[42])=false:=by simpa using h
 have i2:(0:Int) < (s.size:Int):=by omega
 have i7:¬(7:Int)≤(s.size:Int):=by omega
 have e1:((s[0].toNat:Int)==47)=false:=aK (n:=47) (by decide) (hn h0);clear hn;go_in;go_wp2_with fail;exact bodyPost_ret (v:=.tuple #[.agg #[.int .i64 0,.string ⟨#[]⟩,.string ⟨#[]⟩,.string ⟨#[]⟩],.int .i64 8]) (by simp [results,Tryz.results207,go_sem]) rfl ⟨(Sm.refl No w).alloc _,by exact rfl⟩
theorem Af(m s:ByteArray)(hs:s.size≤200)(hm0:¬m.toList=[67,79,78,78,69,67,84])(hm:¬m.toList=[79,80,84,73,79,78,83])(h0:0 < s.size)(hq:s[0]=47)(HO:Hid (cw (ab s)=none))(w:World):Calls Tryz.prog 207 #[.string m,.string s] w (aI (none) 8 w):=by
 have i1:¬(200:Int) < (s.size:Int):=by omega
 have em0:(m.toList==[67,79,78,78,69,67,84])=false:=by simpa using hm0
 have em1:(m.toList==[79,80,84,73,79,78,83])=false:=by simpa using hm
 have i2:(0:Int) < (s.size:Int):=by omega
 have e1:((s[0].toNat:Int)==47)=true:=by rw [hq];rfl
 clear hq;go_in;go_wp2_with fail;obtain⟨b0,hb0⟩:=Iu w.heap.size;obtain⟨w1,hw1⟩:∃ w1,w.alloc (.cells #[.int .i64 0,.string ⟨#[]⟩,.string ⟨#[]⟩,.string ⟨#[]⟩] 59)=w1:=⟨_,rfl⟩;have hs1:Sm No w w1:=by rw [←hw1];exact(Sm.refl No w).alloc _
 have hb1:Bk w1 b0 59 #[.int .i64 0,.string ⟨#[]⟩,.string ⟨#[]⟩,.string ⟨#[]⟩]:=by rw [←hw1,←hb0];exact Bk.new w _ _
 rw [hw1,hb0];have H1:=ns (BT hs1 (BT hb1 hb0));clear hs1 hb1 hw1 hb0;have HOg:=dp s (by omega) w1;unfold bW at HOg;rw [HO.out] at HOg;refine HOg.mono ?_;rintro e w3 ⟨hs3,pB,qB,rfl⟩;have HS3:=ns (H1.out.1.tt hs3);have HB3:=ns (H1.out.2.1.sm hs3 (fun h=>h));clear hs3 HOg;have hl:=(HB3.out).lt;have hc:=(HB3.out).all;have hf:=(HB3.out).fz;go_wp2_with fail;have HT:=ns (cK (p:=.int .i64 0) (q:=.string ⟨#[]⟩) (r:=.string ⟨#[]⟩) (x:=.string ⟨#[]⟩) (HS3.out) (HB3.out) (Nat.le_of_eq H1.out.2.2));have hc:=HT.out.2.all;exact bodyPost_ret (v:=.tuple #[.agg #[.int .i64 0,.string ⟨#[]⟩,.string ⟨#[]⟩,.string ⟨#[]⟩],.int .i64 8]) (by simp [results,Tryz.results207,go_sem,hc]) rfl ⟨HT.out.1,by exact rfl⟩
theorem zI(m s:ByteArray)(hs:s.size≤200)(hm0:¬m.toList=[67,79,78,78,69,67,84])(hm:¬m.toList=[79,80,84,73,79,78,83])(h0:0 < s.size)(hq:s[0]=47)(p q:af)(HO:Hid (cw (ab s)=some (p,q)))(w:World):Calls Tryz.prog 207 #[.string m,.string s] w (aI (some ⟨1,[],p,q⟩) 8 w):=by
 have i1:¬(200:Int) < (s.size:Int):=by omega
 have em0:(m.toList==[67,79,78,78,69,67,84])=false:=by simpa using hm0
 have em1:(m.toList==[79,80,84,73,79,78,83])=false:=by simpa using hm
 have i2:(0:Int) < (s.size:Int):=by omega
 have e1:((s[0].toNat:Int)==47)=true:=by rw [hq];rfl
 clear hq;obtain⟨pB,hpB⟩:=Iu ((⟨p.toArray⟩:ByteArray));obtain⟨qB,hqB⟩:=Iu ((⟨q.toArray⟩:ByteArray));have HPQ:=ns (BT hpB hqB);go_in;go_wp2_with fail;obtain⟨b0,hb0⟩:=Iu w.heap.size;obtain⟨w1,hw1⟩:∃ w1,w.alloc (.cells #[.int .i64 0,.string ⟨#[]⟩,.string ⟨#[]⟩,.string ⟨#[]⟩] 59)=w1:=⟨_,rfl⟩;have hs1:Sm No w w1:=by rw [←hw1];exact(Sm.refl No w).alloc _
 have hb1:Bk w1 b0 59 #[.int .i64 0,.string ⟨#[]⟩,.string ⟨#[]⟩,.string ⟨#[]⟩]:=by rw [←hw1,←hb0];exact Bk.new w _ _
 rw [hw1,hb0];have H1:=ns (BT hs1 (BT hb1 hb0));clear hs1 hb1 hw1 hb0;have HOg:=dp s (by omega) w1;unfold bW at HOg;rw [HO.out] at HOg;refine HOg.mono ?_;dsimp only;rw [hpB,hqB];rintro e w3 ⟨hs3,rfl⟩;clear hpB hqB;have HS3:=ns (H1.out.1.tt hs3);have HB3:=ns (H1.out.2.1.sm hs3 (fun h=>h));clear hs3 HOg;have hl:=(HB3.out).lt;have hc:=(HB3.out).all;have hf:=(HB3.out).fz;go_wp2_with fail;have HT:=ns (cK (p:=.int .i64 1) (q:=.string ⟨#[]⟩) (r:=.string pB) (x:=.string qB) (HS3.out) (HB3.out) (Nat.le_of_eq H1.out.2.2));have hc:=HT.out.2.all;exact bodyPost_ret (v:=.tuple #[.agg #[.int .i64 1,.string ⟨#[]⟩,.string pB,.string qB],.int .i64 0]) (by simp [results,Tryz.results207,go_sem,hc]) rfl ⟨HT.out.1,by
  rw [←HPQ.out.1,←HPQ.out.2];rfl⟩
theorem Ey(m s:ByteArray)(hs:s.size≤200)(hm0:¬m.toList=[67,79,78,78,69,67,84])(hm:¬m.toList=[79,80,84,73,79,78,83])(hn:∀ h:0 < s.size,s[0]≠47)(h7:7≤s.size)(HQ:Hid (bA ((ab s).take 7) fy=true))(w:World):Calls Tryz.prog 207 #[.string m,.string s] w (aI (fm ((ab s).drop 7)) 8 w):=by
 have i1:¬(200:Int) < (s.size:Int):=by omega
 have em0:(m.toList==[67,79,78,78,69,67,84])=false:=by simpa using hm0
 have em1:(m.toList==[79,80,84,73,79,78,83])=false:=by simpa using hm
 have i2:(0:Int) < (s.size:Int):=by omega
 have h0:0 < s.size:=by omega
 have e1:((s[0].toNat:Int)==47)=false:=aK (n:=47) (by decide) (hn h0);clear hn;obtain⟨pre,hpre⟩:=Iu (s.extract 0 7);have hpz:pre.size≤200:=by rw [←hpre,ByteArray.size_extract];omega
 have hpt:ab pre=(ab s).take 7:=by rw [←hpre,aN,List.drop_zero]
 have HSm:Hid (bA pre.data.toList (⟨#[104,116,116,112,58,47,47]⟩:ByteArray).data.toList=true):=ns (by
  show bA (ab pre) fy=_;rw [hpt];exact HQ.out)
 have i7:(7:Int)≤(s.size:Int):=by omega
 have HPre:=ns hpre;clear hpre hpt;obtain⟨r,hr⟩:=Iu (s.extract 7 s.size);have hrz:r.size≤200:=by rw [←hr,ByteArray.size_extract];omega
 have hrt:ab r=(ab s).drop 7:=by rw [←hr,bQ]
 have HR:=ns hr;rw [←hrt];clear hr hrt;go_in;go_wp2_with fail;obtain⟨b0,hb0⟩:=Iu w.heap.size;obtain⟨w1,hw1⟩:∃ w1,w.alloc (.cells #[.int .i64 0,.string ⟨#[]⟩,.string ⟨#[]⟩,.string ⟨#[]⟩] 59)=w1:=⟨_,rfl⟩;have hs1:Sm No w w1:=by rw [←hw1];exact(Sm.refl No w).alloc _
 have hb1:Bk w1 b0 59 #[.int .i64 0,.string ⟨#[]⟩,.string ⟨#[]⟩,.string ⟨#[]⟩]:=by rw [←hw1,←hb0];exact Bk.new w _ _
 rw [hw1,hb0];have H1:=ns (BT hs1 (BT hb1 hb0));clear hs1 hb1 hw1 hb0;rw [HPre.out];refine(fJ HSm (by omega) (by decide) _).mono ?_;rintro e w3 ⟨rfl,hs3⟩;have HS3:=ns (H1.out.1.tt hs3);have HB3:=ns (H1.out.2.1.sm hs3 (fun h=>h));clear hs3;go_wp2_with fail;rw [HR.out];obtain⟨O,hO⟩:=Iu (fm (ab r));have HAb:=jQ r (by omega) w3;rw [hO] at HAb;have HO:=ns hO;clear hO;refine HAb.mono ?_;clear HAb
 cases O with
 |none=>
  rintro e w4 ⟨hs4,rfl⟩;rw [show G7 ⟨0,[],[],[]⟩=.agg #[.int .i64 0,.string ⟨#[]⟩,.string ⟨#[]⟩,.string ⟨#[]⟩] from rfl];have HS4:=ns (HS3.out.tt hs4);have HB4:=ns (HB3.out.sm hs4 (fun h=>h));clear hs4;have hl:=(HB4.out).lt;have hc:=(HB4.out).all;have hf:=(HB4.out).fz;go_wp2_with fail;have HT:=ns (cK (p:=.int .i64 0) (q:=.string ⟨#[]⟩) (r:=.string ⟨#[]⟩) (x:=.string ⟨#[]⟩) (HS4.out) (HB4.out) (Nat.le_of_eq H1.out.2.2));have hc:=HT.out.2.all;exact bodyPost_ret (v:=.tuple #[.agg #[.int .i64 0,.string ⟨#[]⟩,.string ⟨#[]⟩,.string ⟨#[]⟩],.int .i64 8]) (by simp [results,Tryz.results207,go_sem,hc]) rfl ⟨HT.out.1,by rw [HO.out];exact rfl⟩
 |some t=>
  obtain⟨f,h,p,q⟩:=t;obtain⟨hB,hhB⟩:=Iu ((⟨h.toArray⟩:ByteArray));obtain⟨pB,hpB⟩:=Iu ((⟨p.toArray⟩:ByteArray));obtain⟨qB,hqB⟩:=Iu ((⟨q.toArray⟩:ByteArray));have HPQ:=ns (show G7 ⟨f,h,p,q⟩=.agg #[.int .i64 f,.string hB,.string pB,.string qB] from by rw [←hhB,←hpB,←hqB];rfl);clear hhB hpB hqB;rintro e w4 ⟨hs4,rfl⟩;rw [HPQ.out];have HS4:=ns (HS3.out.tt hs4);have HB4:=ns (HB3.out.sm hs4 (fun h=>h));clear hs4;have hl:=(HB4.out).lt;have hc:=(HB4.out).all;have hf:=(HB4.out).fz;go_wp2_with fail;have HT:=ns (cK (p:=.int .i64 f) (q:=.string hB) (r:=.string pB) (x:=.string qB) (HS4.out) (HB4.out) (Nat.le_of_eq H1.out.2.2));have hc:=HT.out.2.all;exact bodyPost_ret (v:=.tuple #[.agg #[.int .i64 f,.string hB,.string pB,.string qB],.int .i64 0]) (by simp [results,Tryz.results207,go_sem,hc]) rfl ⟨HT.out.1,by rw [HO.out,←HPQ.out]⟩
theorem Dn(m s:ByteArray)(hs:s.size≤200)(hm0:¬m.toList=[67,79,78,78,69,67,84])(hm:¬m.toList=[79,80,84,73,79,78,83])(hn:∀ h:0 < s.size,s[0]≠47)(h7:7≤s.size)(HQ:Hid (bA ((ab s).take 7) fy=false))(w:World):Calls Tryz.prog 207 #[.string m,.string s] w (aI (none) 8 w):=by
 have i1:¬(200:Int) < (s.size:Int):=by omega
 have em0:(m.toList==[67,79,78,78,69,67,84])=false:=by simpa using hm0
 have em1:(m.toList==[79,80,84,73,79,78,83])=false:=by simpa using hm
 have i2:(0:Int) < (s.size:Int):=by omega
 have h0:0 < s.size:=by omega
 have e1:((s[0].toNat:Int)==47)=false:=aK (n:=47) (by decide) (hn h0);clear hn;obtain⟨pre,hpre⟩:=Iu (s.extract 0 7);have hpz:pre.size≤200:=by rw [←hpre,ByteArray.size_extract];omega
 have hpt:ab pre=(ab s).take 7:=by rw [←hpre,aN,List.drop_zero]
 have HSm:Hid (bA pre.data.toList (⟨#[104,116,116,112,58,47,47]⟩:ByteArray).data.toList=false):=ns (by
  show bA (ab pre) fy=_;rw [hpt];exact HQ.out)
 have i7:(7:Int)≤(s.size:Int):=by omega
 have HPre:=ns hpre;clear hpre hpt;go_in;go_wp2_with fail;obtain⟨b0,hb0⟩:=Iu w.heap.size;obtain⟨w1,hw1⟩:∃ w1,w.alloc (.cells #[.int .i64 0,.string ⟨#[]⟩,.string ⟨#[]⟩,.string ⟨#[]⟩] 59)=w1:=⟨_,rfl⟩;have hs1:Sm No w w1:=by rw [←hw1];exact(Sm.refl No w).alloc _
 have hb1:Bk w1 b0 59 #[.int .i64 0,.string ⟨#[]⟩,.string ⟨#[]⟩,.string ⟨#[]⟩]:=by rw [←hw1,←hb0];exact Bk.new w _ _
 rw [hw1,hb0];have H1:=ns (BT hs1 (BT hb1 hb0));clear hs1 hb1 hw1 hb0;rw [HPre.out];refine(fJ HSm (by omega) (by decide) _).mono ?_;rintro e w3 ⟨rfl,hs3⟩;have HS3:=ns (H1.out.1.tt hs3);have HB3:=ns (H1.out.2.1.sm hs3 (fun h=>h));clear hs3;have hl:=(HB3.out).lt;have hc:=(HB3.out).all;have hf:=(HB3.out).fz;go_wp2_with fail;have HT:=ns (cK (p:=.int .i64 0) (q:=.string ⟨#[]⟩) (r:=.string ⟨#[]⟩) (x:=.string ⟨#[]⟩) (HS3.out) (HB3.out) (Nat.le_of_eq H1.out.2.2));have hc:=HT.out.2.all;exact bodyPost_ret (v:=.tuple #[.agg #[.int .i64 0,.string ⟨#[]⟩,.string ⟨#[]⟩,.string ⟨#[]⟩],.int .i64 8]) (by simp [results,Tryz.results207,go_sem,hc]) rfl ⟨HT.out.1,by exact rfl⟩
theorem B5(m s:ByteArray)(hs:s.size≤200)(hm0:¬m.toList=[67,79,78,78,69,67,84])(hm:¬m.toList=[79,80,84,73,79,78,83])(h7:s.size=0)(w:World):Calls Tryz.prog 207 #[.string m,.string s] w (aI (none) 8 w):=by
 have i1:¬(200:Int) < (s.size:Int):=by omega
 have em0:(m.toList==[67,79,78,78,69,67,84])=false:=by simpa using hm0
 have em1:(m.toList==[79,80,84,73,79,78,83])=false:=by simpa using hm
 have i2:¬(0:Int) < (s.size:Int):=by omega
 have i7:¬(7:Int)≤(s.size:Int):=by omega
 clear h7;go_in;go_wp2_with fail;exact bodyPost_ret (v:=.tuple #[.agg #[.int .i64 0,.string ⟨#[]⟩,.string ⟨#[]⟩,.string ⟨#[]⟩],.int .i64 8]) (by simp [results,Tryz.results207,go_sem]) rfl ⟨(Sm.refl No w).alloc _,by exact rfl⟩
theorem ED(m s:ByteArray)(hs:s.size≤200)(hm0:¬m.toList=[67,79,78,78,69,67,84])(hm:¬m.toList=[79,80,84,73,79,78,83])(hn:∀ h:0 < s.size,s[0]≠47)(h0:0 < s.size)(h7:s.size < 7)(w:World):Calls Tryz.prog 207 #[.string m,.string s] w (aI (none) 8 w):=by
 have i1:¬(200:Int) < (s.size:Int):=by omega
 have em0:(m.toList==[67,79,78,78,69,67,84])=false:=by simpa using hm0
 have em1:(m.toList==[79,80,84,73,79,78,83])=false:=by simpa using hm
 have i2:(0:Int) < (s.size:Int):=by omega
 have i7:¬(7:Int)≤(s.size:Int):=by omega
 have e1:((s[0].toNat:Int)==47)=false:=aK (n:=47) (by decide) (hn h0);clear hn;go_in;go_wp2_with fail;exact bodyPost_ret (v:=.tuple #[.agg #[.int .i64 0,.string ⟨#[]⟩,.string ⟨#[]⟩,.string ⟨#[]⟩],.int .i64 8]) (by simp [results,Tryz.results207,go_sem]) rfl ⟨(Sm.refl No w).alloc _,by exact rfl⟩
theorem Bv{m s:af}(h:200 < s.length):cG m s=(none,9):=by unfold cG;rw [if_pos h]
theorem DL{m s:af}(h:¬200 < s.length)(hm:m=gd):cG m s=if bR s=true∧lX 58 s=true then (some ⟨3,aU s,[],[]⟩,0) else (none,8):=by unfold cG;rw [if_neg h,if_pos hm]
theorem BE{m s:af}(h:¬200 < s.length)(h0:¬m=gd)(hm:m=gU∧s=[42]):cG m s=(some ⟨4,[],[],[]⟩,0):=by unfold cG;rw [if_neg h,if_neg h0,if_pos hm]
theorem DS{m s:af}(h:¬200 < s.length)(h0:¬m=gd)(hm:¬(m=gU∧s=[42]))(hq:s.head?=some 47):cG m s=match cw s with
 |some (p,q)=>(some ⟨1,[],p,q⟩,0)
 |none=>(none,8):=by unfold cG;rw [if_neg h,if_neg h0,if_neg hm,if_pos hq];rfl
theorem DP{m s:af}(h:¬200 < s.length)(h0:¬m=gd)(hm:¬(m=gU∧s=[42]))(hq:¬s.head?=some 47):cG m s=if bA (s.take 7) fy=true∧7≤s.length then (fm (s.drop 7),8) else (none,8):=by unfold cG;rw [if_neg h,if_neg h0,if_neg hm,if_neg hq]
theorem aI.code{t:Tg}{c d:Int}{w w':World}{e:Ending}(h:aI (some t) c w e w'):aI (some t) d w e w':=h
theorem uO(m s:ByteArray)(w:World):Calls Tryz.prog 207 #[.string m,.string s] w (aI (cG (ab m) (ab s)).1 (cG (ab m) (ab s)).2 w):=by
 have hl:(ab s).length=s.size:=ae s;by_cases h1:200 < s.size
 ·rw [Bv (by omega)];exact Dx m s h1 w
 have h1':¬200 < (ab s).length:=by omega
 have hz:s.size≤200:=by omega
 have tl:∀ b:ByteArray,b.toList=ab b:=fun b=>ByteArray.toList_eq b;by_cases h2:ab m=gd
 ·have h2':m.toList=[67,79,78,78,69,67,84]:=(tl m).trans h2;rw [DL h1' h2]
  cases ha:bR (ab s) with
  |false=>rw [if_neg (by simp)];exact CI m s hz h2' (ns ha) w
  |true=>cases hb:lX 58 (ab s) with
   |false=>rw [if_neg (by simp)];exact Eu m s hz h2' (ns ha) (ns hb) w
   |true=>rw [if_pos (by simp)];exact(CK m s hz h2' (ns ha) (ns hb) w).mono fun _ _ h=>h
 have h2':¬m.toList=[67,79,78,78,69,67,84]:=fun h=>h2 ((tl m).symm.trans h);by_cases h3:ab m=gU∧ab s=[42]
 ·rw [BE h1' h2 h3];exact(DH m s hz ((tl m).trans h3.1) ((tl s).trans h3.2) w).mono fun _ _ h=>h
 have h3':(m.toList=[79,80,84,73,79,78,83]∧¬s.toList=[42])∨¬m.toList=[79,80,84,73,79,78,83]:=by
  by_cases g:m.toList=[79,80,84,73,79,78,83]
  ·exact Or.inl ⟨g,fun e=>h3 ⟨(tl m).symm.trans g,(tl s).symm.trans e⟩⟩
  ·exact Or.inr g
 by_cases h4:∃ h:0 < s.size,s[0]=47
 ·obtain⟨h0,hq⟩:=h4;have hh:(ab s).head?=some 47:=by
   rw [List.head?_eq_getElem?,List.getElem?_eq_getElem (by omega)];exact congrArg some hq
  rw [DS h1' h2 h3 hh]
  cases ho:cw (ab s) with
  |none=>
   rcases h3' with ⟨ga,gb⟩|g
   ·exact zr m s hz ga gb h0 hq (ns ho) w
   ·exact Af m s hz h2' g h0 hq (ns ho) w
  |some x=>
   obtain⟨p,q⟩:=x;rcases h3' with ⟨ga,gb⟩|g
   ·exact(yT m s hz ga gb h0 hq p q (ns ho) w).mono fun _ _ h=>h
   ·exact(zI m s hz h2' g h0 hq p q (ns ho) w).mono fun _ _ h=>h
 have hn:∀ h:0 < s.size,s[0]≠47:=fun h e=>h4 ⟨h,e⟩;have hh:¬(ab s).head?=some 47:=by
  intro e;rw [List.head?_eq_getElem?] at e;obtain⟨h,e⟩:=List.getElem?_eq_some_iff.1 e;exact hn (by omega) e
 rw [DP h1' h2 h3 hh];by_cases h7:7≤s.size
 ·cases hq:bA ((ab s).take 7) fy with
  |true=>
   rw [if_pos ⟨rfl,by omega⟩];rcases h3' with ⟨ga,gb⟩|g
   ·exact Ew m s hz ga gb hn h7 (ns hq) w
   ·exact Ey m s hz h2' g hn h7 (ns hq) w
  |false=>
   rw [if_neg (by simp)];rcases h3' with ⟨ga,gb⟩|g
   ·exact Cx m s hz ga gb hn h7 (ns hq) w
   ·exact Dn m s hz h2' g hn h7 (ns hq) w
 ·rw [if_neg (by omega)];by_cases h0:s.size=0
  ·rcases h3' with ⟨ga,gb⟩|g
   ·exact C2 m s hz ga gb h0 w
   ·exact B5 m s hz h2' g h0 w
  ·rcases h3' with ⟨ga,gb⟩|g
   ·exact Ee m s hz ga gb hn (by omega) (by omega) w
   ·exact ED m s hz h2' g hn (by omega) (by omega) w
end Go.Proofs.YtcflkcbogofgbaaGreatDoor
