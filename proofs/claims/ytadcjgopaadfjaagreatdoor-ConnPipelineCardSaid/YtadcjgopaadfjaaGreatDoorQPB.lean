import Derived.Test.YtadcjgopaadfjaaGreatDoorQPA
import Derived.Test.YtadcjgopaadfjaaGreatDoorQP
import Derived.Test.YtadcjgopaadfjaaGreatDoorQQ
import Derived.Test.YtadcjgopaadfjaaGreatDoorQC
import Derived.Test.YtadcjgopaadfjaaGreatDoorQB
import Derived.Test.YtadcjgopaadfjaaGreatDoorQL
import Derived.Defers
import Derived.Recover
import Derived.Laws.Pointers
set_option maxHeartbeats 8000000
set_option maxRecDepth 100000
namespace Go.Proofs.YtadcjgopaadfjaaGreatDoor
open Go.RowKit Go.Proofs
theorem iY{s:ByteArray}{r:Bool}(h:Hid (eh (af s)=r))(hs:s.size≤100000)(w:World):Calls Tryz.prog 226 #[.string s] w fun e w'=>e=.returned (.bool r)∧Sm No w w':=by
 rw [←h.out];exact CD s hs w
theorem fV{s:ByteArray}{c:UInt8}{r:Bool}(h:Hid (oM c (af s)=r))(w:World):Calls Tryz.prog 245 #[.string s,.string ⟨#[c]⟩] w fun e w'=>e=.returned (.bool r)∧w'=w:=by
 have h2:decide (0≤Lib.indexByte s.data.toList c)=r:=by
  rw [←h.out];have:=ua (af s) c
  cases hb:oM c (af s) with
  |true=>exact decide_eq_true (this.2 hb)
  |false=>exact decide_eq_false (fun e=>by rw [this.1 e] at hb;cases hb)
 rw [←h2];exact Tryz.strings_Contains_one s c w
theorem dD{s p:ByteArray}{r:Bool}(h:Hid (Lib.hasPrefix (af s) (af p)=r))(w:World):Calls Tryz.prog 133 #[.string s,.string p] w fun e w'=>e=.returned (.bool r)∧w'=w:=by
 rw [←h.out];exact Tryz.strings_HasPrefix s p w
theorem ml{s t:ByteArray}(h:Hid ((⟨(bV (af s)).toArray⟩:ByteArray)=t))(hs:s.size≤1000000)(w:World):Calls Tryz.prog 184 #[.string s] w fun e w'=>e=.returned (.string t)∧Sm No w w':=by
 rw [←h.out];exact iV s hs w
theorem pk{s:ByteArray}{c:UInt8}{x:Int}(h:Hid (Lib.indexByte (af s) c=x))(w:World):Calls Tryz.prog 122 #[.string s,.int .u8 c.toNat] w fun e w'=>e=.returned (.int .i64 x)∧w'=w:=by
 have:=Tryz.strings_IndexByte s (c.toNat:Int) w;rw [show ((c.toNat:Int)).toNat.toUInt8=c from by simp] at this;rw [←h.out];exact this
theorem bq.none'{w w':World}{c:Int}(hs:Sm No w w'):bq none c w (.returned (.tuple #[.agg #[.int .i64 0,.string ⟨#[]⟩,.string ⟨#[]⟩,.string ⟨#[]⟩],.int .i64 c])) w':=⟨hs,rfl⟩
theorem bq.some'{w w':World}{t:Tg}{c:Int}(hs:Sm No w w'):bq (some t) c w (.returned (.tuple #[.agg #[.int .i64 t.form,.string ⟨t.host.toArray⟩,.string ⟨t.path.toArray⟩,.string ⟨t.query.toArray⟩],.int .i64 0])) w':=⟨hs,rfl⟩
theorem Dx(m s:ByteArray)(hs:200 < s.size)(w:World):Calls Tryz.prog 223 #[.string m,.string s] w (bq none 9 w):=by
 have i1:(200:Int) < (s.size:Int):=by omega
 go_in;go_wp2_with fail;exact bodyPost_ret (v:=.tuple #[.agg #[.int .i64 0,.string ⟨#[]⟩,.string ⟨#[]⟩,.string ⟨#[]⟩],.int .i64 9]) (by simp [results,Tryz.results223,go_sem]) rfl (bq.none' ((Sm.refl No w).alloc _))
theorem Ex(m s:ByteArray)(hs:s.size≤200)(hm:m.toList=[67,79,78,78,69,67,84])(HI:Hid (oM 58 (af s)=false))(w:World):Calls Tryz.prog 223 #[.string m,.string s] w (bq none 8 w):=by
 have i1:¬(200:Int) < (s.size:Int):=by omega
 obtain⟨b0,hb0⟩:=ai w.heap.size;have HB0:=aa hb0;clear hb0;go_in;go_wp2_with fail;rw [HB0.out];obtain⟨w1,hw1⟩:∃ w1,w.alloc (.cells #[.int .i64 0,.string ⟨#[]⟩,.string ⟨#[]⟩,.string ⟨#[]⟩] 170)=w1:=⟨_,rfl⟩;have hs1:Sm No w w1:=by rw [←hw1];exact(Sm.refl No w).alloc _
 have h01:Bk w1 b0 170 #[.int .i64 0,.string ⟨#[]⟩,.string ⟨#[]⟩,.string ⟨#[]⟩]:=by rw [←hw1,←HB0.out];exact Bk.new w _ _
 rw [hw1];have H1:=aa (ab hs1 h01);clear hs1 h01 hw1;refine(fV HI _).mono ?_;rintro e w1 ⟨rfl,rfl⟩;have z0:=H1.out.2.at 0 (v:=.int .i64 0) rfl;have z1:=H1.out.2.at 1 (v:=.string ⟨#[]⟩) rfl;have z2:=H1.out.2.at 2 (v:=.string ⟨#[]⟩) rfl;have z3:=H1.out.2.at 3 (v:=.string ⟨#[]⟩) rfl;have zf:=H1.out.2.fz;have zl:=H1.out.2.lt;go_wp2_with fail;have hsE:Sm No w _:=H1.out.1.fresh (((((Sm.refl (fun b=>b=b0) w1).set1 0 (.int .i64 0)).set1 1 (.string ⟨#[]⟩)).set1 2 (.string ⟨#[]⟩)).set1 3 (.string ⟨#[]⟩)) (fun b e=>by have:=HB0.out;omega);exact bodyPost_ret (v:=.tuple #[.agg #[.int .i64 0,.string ⟨#[]⟩,.string ⟨#[]⟩,.string ⟨#[]⟩],.int .i64 8]) (by simp [results,Tryz.results223,go_sem,z0,z1,z2,z3]) rfl (bq.none' hsE)
theorem Dq(m s:ByteArray)(hs:s.size≤200)(hm:m.toList=[67,79,78,78,69,67,84])(HI:Hid (oM 58 (af s)=true))(HH:Hid (eh (af s)=false))(w:World):Calls Tryz.prog 223 #[.string m,.string s] w (bq none 8 w):=by
 have i1:¬(200:Int) < (s.size:Int):=by omega
 obtain⟨b0,hb0⟩:=ai w.heap.size;have HB0:=aa hb0;clear hb0;go_in;go_wp2_with fail;rw [HB0.out];obtain⟨w1,hw1⟩:∃ w1,w.alloc (.cells #[.int .i64 0,.string ⟨#[]⟩,.string ⟨#[]⟩,.string ⟨#[]⟩] 170)=w1:=⟨_,rfl⟩;have hs1:Sm No w w1:=by rw [←hw1];exact(Sm.refl No w).alloc _
 have h01:Bk w1 b0 170 #[.int .i64 0,.string ⟨#[]⟩,.string ⟨#[]⟩,.string ⟨#[]⟩]:=by rw [←hw1,←HB0.out];exact Bk.new w _ _
 rw [hw1];have H1:=aa (ab hs1 h01);clear hs1 h01 hw1;refine(fV HI _).mono ?_;rintro e w1 ⟨rfl,rfl⟩;go_wp2_with fail;refine(iY HH (by omega) _).mono ?_;rintro e w3 ⟨rfl,hs3⟩;have H3:=aa (ab (H1.out.1.tt hs3) (H1.out.2.sm hs3 (fun h=>h)));clear hs3;have z0:=H3.out.2.at 0 (v:=.int .i64 0) rfl;have z1:=H3.out.2.at 1 (v:=.string ⟨#[]⟩) rfl;have z2:=H3.out.2.at 2 (v:=.string ⟨#[]⟩) rfl;have z3:=H3.out.2.at 3 (v:=.string ⟨#[]⟩) rfl;have zf:=H3.out.2.fz;have zl:=H3.out.2.lt;go_wp2_with fail;have hsE:Sm No w _:=H3.out.1.fresh (((((Sm.refl (fun b=>b=b0) w3).set1 0 (.int .i64 0)).set1 1 (.string ⟨#[]⟩)).set1 2 (.string ⟨#[]⟩)).set1 3 (.string ⟨#[]⟩)) (fun b e=>by have:=HB0.out;omega);exact bodyPost_ret (v:=.tuple #[.agg #[.int .i64 0,.string ⟨#[]⟩,.string ⟨#[]⟩,.string ⟨#[]⟩],.int .i64 8]) (by simp [results,Tryz.results223,go_sem,z0,z1,z2,z3]) rfl (bq.none' hsE)
theorem DN(m s:ByteArray)(hs:s.size≤200)(hm:m.toList=[67,79,78,78,69,67,84])(HI:Hid (oM 58 (af s)=true))(HH:Hid (eh (af s)=true))(w:World):Calls Tryz.prog 223 #[.string m,.string s] w (bq (some ⟨3,bV (af s),[],[]⟩) 0 w):=by
 have i1:¬(200:Int) < (s.size:Int):=by omega
 obtain⟨b0,hb0⟩:=ai w.heap.size;have HB0:=aa hb0;clear hb0;go_in;go_wp2_with fail;rw [HB0.out];obtain⟨w1,hw1⟩:∃ w1,w.alloc (.cells #[.int .i64 0,.string ⟨#[]⟩,.string ⟨#[]⟩,.string ⟨#[]⟩] 170)=w1:=⟨_,rfl⟩;have hs1:Sm No w w1:=by rw [←hw1];exact(Sm.refl No w).alloc _
 have h01:Bk w1 b0 170 #[.int .i64 0,.string ⟨#[]⟩,.string ⟨#[]⟩,.string ⟨#[]⟩]:=by rw [←hw1,←HB0.out];exact Bk.new w _ _
 rw [hw1];have H1:=aa (ab hs1 h01);clear hs1 h01 hw1;refine(fV HI _).mono ?_;rintro e w1 ⟨rfl,rfl⟩;go_wp2_with fail;refine(iY HH (by omega) _).mono ?_;rintro e w3 ⟨rfl,hs3⟩;have H3:=aa (ab (H1.out.1.tt hs3) (H1.out.2.sm hs3 (fun h=>h)));clear hs3;obtain⟨t,ht⟩:=ai ((⟨(bV (af s)).toArray⟩:ByteArray));have HT:=aa ht;clear ht;go_wp2_with fail;refine(ml HT (by omega) _).mono ?_;rintro e w4 ⟨rfl,hs4⟩;have H4:=aa (ab (H3.out.1.tt hs4) (H3.out.2.sm hs4 (fun h=>h)));clear hs4;have z0:=H4.out.2.at 0 (v:=.int .i64 0) rfl;have z1:=H4.out.2.at 1 (v:=.string ⟨#[]⟩) rfl;have z2:=H4.out.2.at 2 (v:=.string ⟨#[]⟩) rfl;have z3:=H4.out.2.at 3 (v:=.string ⟨#[]⟩) rfl;have zf:=H4.out.2.fz;have zl:=H4.out.2.lt;go_wp2_with fail;have hsE:Sm No w _:=H4.out.1.fresh (((((Sm.refl (fun b=>b=b0) w4).set1 0 (.int .i64 3)).set1 1 (.string t)).set1 2 (.string ⟨#[]⟩)).set1 3 (.string ⟨#[]⟩)) (fun b e=>by have:=HB0.out;omega);exact bodyPost_ret (v:=.tuple #[.agg #[.int .i64 3,.string t,.string ⟨#[]⟩,.string ⟨#[]⟩],.int .i64 0]) (by simp [results,Tryz.results223,go_sem,z0,z1,z2,z3]) rfl (by
  have h:=bq.some' (t:=⟨3,bV (af s),[],[]⟩) (c:=0) hsE;dsimp only at h;rw [HT.out] at h;exact h)
theorem Fb(m s:ByteArray)(hs:s.size≤200)(hm:m.toList=[79,80,84,73,79,78,83])(h42:s.toList=[42])(w:World):Calls Tryz.prog 223 #[.string m,.string s] w (bq (some ⟨4,[],[],[]⟩) 0 w):=by
 have i1:¬(200:Int) < (s.size:Int):=by omega
 go_in;go_wp2_with fail;exact bodyPost_ret (v:=.tuple #[.agg #[.int .i64 4,.string ⟨#[]⟩,.string ⟨#[]⟩,.string ⟨#[]⟩],.int .i64 0]) (by simp [results,Tryz.results223,go_sem]) rfl (bq.some' (t:=⟨4,[],[],[]⟩) ((Sm.refl No w).alloc _))
theorem EE(m s:ByteArray)(hs:s.size≤200)(hmb:(m.toList==[67,79,78,78,69,67,84])=false)(h42:¬(m.toList=[79,80,84,73,79,78,83]∧s.toList=[42]))(HP:Hid (Lib.hasPrefix (af s) (af ⟨#[47]⟩)=true))(HO:fa (af s)=none)(w:World)(hg:G0 w):Calls Tryz.prog 223 #[.string m,.string s] w (bq none 8 w):=by
 have i1:¬(200:Int) < (s.size:Int):=by omega
 have HG:=aa hg;have HOr:=aa (fun (W:World) (h:G0 W)=>jD s ⟨#[]⟩ 1 (by omega) W h);unfold dg at HOr;rw [HO] at HOr;dsimp only at HOr;unfold qz at HOr;clear hg HO;obtain⟨b0,hb0⟩:=ai w.heap.size;have HB0:=aa hb0;clear hb0;go_in;go_upto_region 7 with fail;rw [HB0.out];obtain⟨w1,hw1⟩:∃ w1,w.alloc (.cells #[.int .i64 0,.string ⟨#[]⟩,.string ⟨#[]⟩,.string ⟨#[]⟩] 170)=w1:=⟨_,rfl⟩;have hs1:Sm No w w1:=by rw [←hw1];exact(Sm.refl No w).alloc _
 have h01:Bk w1 b0 170 #[.int .i64 0,.string ⟨#[]⟩,.string ⟨#[]⟩,.string ⟨#[]⟩]:=by rw [←hw1,←HB0.out];exact Bk.new w _ _
 rw [hw1];have H1:=aa (ab hs1 h01);clear hs1 h01 hw1
 go_cut [30] (fun c wx=>wx=w1∧c=.bool false)
 case first=>
  by_cases hmo:m.toList=[79,80,84,73,79,78,83]
  ·have h42b:(s.toList==[42])=false:=by
    have h43:¬s.toList=[42]:=fun e=>h42 ⟨hmo,e⟩;simpa using h43
   clear h42;go_wp2_with fail;go_meet;exact⟨rfl,rfl⟩
  ·have hmob:(m.toList==[79,80,84,73,79,78,83])=false:=by simpa using hmo
   clear h42;go_wp2_with fail;go_meet;exact⟨rfl,rfl⟩
 case rest=>
  obtain⟨rfl,rfl⟩:=hcut;obtain⟨w1,rfl⟩:∃ w1:World,w1=wc:=⟨_,rfl⟩;clear hmb h42;go_wp2_with fail;refine(dD HP _).mono ?_;rintro e w1 ⟨rfl,rfl⟩;go_wp2_with fail;refine(HOr.out w1 (HG.out.no H1.out.1)).mono ?_;rintro e w3 ⟨hs3,rfl⟩;have H3:=aa (ab (H1.out.1.tt hs3) (H1.out.2.sm hs3 (fun h=>h)));clear hs3;have z0:=H3.out.2.at 0 (v:=.int .i64 0) rfl;have z1:=H3.out.2.at 1 (v:=.string ⟨#[]⟩) rfl;have z2:=H3.out.2.at 2 (v:=.string ⟨#[]⟩) rfl;have z3:=H3.out.2.at 3 (v:=.string ⟨#[]⟩) rfl;have zf:=H3.out.2.fz;have zl:=H3.out.2.lt;go_wp2_with fail;have hsE:Sm No w _:=H3.out.1.fresh (((((Sm.refl (fun b=>b=b0) w3).set1 0 (.int .i64 0)).set1 1 (.string ⟨#[]⟩)).set1 2 (.string ⟨#[]⟩)).set1 3 (.string ⟨#[]⟩)) (fun b e=>by have:=HB0.out;omega);exact bodyPost_ret (v:=.tuple #[.agg #[.int .i64 0,.string ⟨#[]⟩,.string ⟨#[]⟩,.string ⟨#[]⟩],.int .i64 8]) (by simp [results,Tryz.results223,go_sem,z0,z1,z2,z3]) rfl (bq.none' hsE)
theorem Ee(m s:ByteArray)(hs:s.size≤200)(hmb:(m.toList==[67,79,78,78,69,67,84])=false)(h42:¬(m.toList=[79,80,84,73,79,78,83]∧s.toList=[42]))(HP:Hid (Lib.hasPrefix (af s) (af ⟨#[47]⟩)=true))(p q:ah)(HO:fa (af s)=some (p,q))(w:World)(hg:G0 w):Calls Tryz.prog 223 #[.string m,.string s] w (bq (some ⟨1,[],p,q⟩) 0 w):=by
 have i1:¬(200:Int) < (s.size:Int):=by omega
 have HG:=aa hg;have HOr:=aa (fun (W:World) (h:G0 W)=>jD s ⟨#[]⟩ 1 (by omega) W h);unfold dg at HOr;rw [HO] at HOr;dsimp only at HOr;clear hg HO;obtain⟨b0,hb0⟩:=ai w.heap.size;have HB0:=aa hb0;clear hb0;go_in;go_upto_region 7 with fail;rw [HB0.out];obtain⟨w1,hw1⟩:∃ w1,w.alloc (.cells #[.int .i64 0,.string ⟨#[]⟩,.string ⟨#[]⟩,.string ⟨#[]⟩] 170)=w1:=⟨_,rfl⟩;have hs1:Sm No w w1:=by rw [←hw1];exact(Sm.refl No w).alloc _
 have h01:Bk w1 b0 170 #[.int .i64 0,.string ⟨#[]⟩,.string ⟨#[]⟩,.string ⟨#[]⟩]:=by rw [←hw1,←HB0.out];exact Bk.new w _ _
 rw [hw1];have H1:=aa (ab hs1 h01);clear hs1 h01 hw1
 go_cut [30] (fun c wx=>wx=w1∧c=.bool false)
 case first=>
  by_cases hmo:m.toList=[79,80,84,73,79,78,83]
  ·have h42b:(s.toList==[42])=false:=by
    have h43:¬s.toList=[42]:=fun e=>h42 ⟨hmo,e⟩;simpa using h43
   clear h42;go_wp2_with fail;go_meet;exact⟨rfl,rfl⟩
  ·have hmob:(m.toList==[79,80,84,73,79,78,83])=false:=by simpa using hmo
   clear h42;go_wp2_with fail;go_meet;exact⟨rfl,rfl⟩
 case rest=>
  obtain⟨rfl,rfl⟩:=hcut;obtain⟨w1,rfl⟩:∃ w1:World,w1=wc:=⟨_,rfl⟩;clear hmb h42;go_wp2_with fail;refine(dD HP _).mono ?_;rintro e w1 ⟨rfl,rfl⟩;go_wp2_with fail;refine(HOr.out w1 (HG.out.no H1.out.1)).mono ?_;rintro e w3 ⟨hs3,rfl⟩;have H3:=aa (ab (H1.out.1.tt hs3) (H1.out.2.sm hs3 (fun h=>h)));clear hs3;have z0:=H3.out.2.at 0 (v:=.int .i64 0) rfl;have z1:=H3.out.2.at 1 (v:=.string ⟨#[]⟩) rfl;have z2:=H3.out.2.at 2 (v:=.string ⟨#[]⟩) rfl;have z3:=H3.out.2.at 3 (v:=.string ⟨#[]⟩) rfl;have zf:=H3.out.2.fz;have zl:=H3.out.2.lt;go_wp2_with fail;have hsE:Sm No w _:=H3.out.1.fresh (((((Sm.refl (fun b=>b=b0) w3).set1 0 (.int .i64 1)).set1 1 (.string ⟨#[]⟩)).set1 2 (.string ⟨p.toArray⟩)).set1 3 (.string ⟨q.toArray⟩)) (fun b e=>by have:=HB0.out;omega);exact bodyPost_ret (v:=.tuple #[.agg #[.int .i64 1,.string ⟨#[]⟩,.string ⟨p.toArray⟩,.string ⟨q.toArray⟩],.int .i64 0]) (by simp [results,Tryz.results223,go_sem,z0,z1,z2,z3]) rfl (bq.some' (t:=⟨1,[],p,q⟩) hsE)
theorem Dw(m s t:ByteArray)(hs:s.size≤200)(hmb:(m.toList==[67,79,78,78,69,67,84])=false)(h42:¬(m.toList=[79,80,84,73,79,78,83]∧s.toList=[42]))(HP:Hid (Lib.hasPrefix (af s) (af ⟨#[47]⟩)=false))(HT:Hid ((⟨(bV (af s)).toArray⟩:ByteArray)=t))(HP2:Hid (Lib.hasPrefix (af t) (af ⟨#[104,116,116,112,58,47,47]⟩)=false))(w:World):Calls Tryz.prog 223 #[.string m,.string s] w (bq none 8 w):=by
 have i1:¬(200:Int) < (s.size:Int):=by omega
 obtain⟨b0,hb0⟩:=ai w.heap.size;have HB0:=aa hb0;clear hb0;go_in;go_upto_region 7 with fail;rw [HB0.out];obtain⟨w1,hw1⟩:∃ w1,w.alloc (.cells #[.int .i64 0,.string ⟨#[]⟩,.string ⟨#[]⟩,.string ⟨#[]⟩] 170)=w1:=⟨_,rfl⟩;have hs1:Sm No w w1:=by rw [←hw1];exact(Sm.refl No w).alloc _
 have h01:Bk w1 b0 170 #[.int .i64 0,.string ⟨#[]⟩,.string ⟨#[]⟩,.string ⟨#[]⟩]:=by rw [←hw1,←HB0.out];exact Bk.new w _ _
 rw [hw1];have H1:=aa (ab hs1 h01);clear hs1 h01 hw1
 go_cut [30] (fun c wx=>wx=w1∧c=.bool false)
 case first=>
  by_cases hmo:m.toList=[79,80,84,73,79,78,83]
  ·have h42b:(s.toList==[42])=false:=by
    have h43:¬s.toList=[42]:=fun e=>h42 ⟨hmo,e⟩;simpa using h43
   clear h42;go_wp2_with fail;go_meet;exact⟨rfl,rfl⟩
  ·have hmob:(m.toList==[79,80,84,73,79,78,83])=false:=by simpa using hmo
   clear h42;go_wp2_with fail;go_meet;exact⟨rfl,rfl⟩
 case rest=>
  obtain⟨rfl,rfl⟩:=hcut;obtain⟨w1,rfl⟩:∃ w1:World,w1=wc:=⟨_,rfl⟩;clear hmb h42;go_wp2_with fail;refine(dD HP _).mono ?_;rintro e w1 ⟨rfl,rfl⟩;go_wp2_with fail;refine(ml HT (by omega) _).mono ?_;rintro e w3 ⟨rfl,hs3⟩;have H3:=aa (ab (H1.out.1.tt hs3) (H1.out.2.sm hs3 (fun h=>h)));clear hs3;go_wp2_with fail;refine(dD HP2 _).mono ?_;rintro e w3 ⟨rfl,rfl⟩;have z0:=H3.out.2.at 0 (v:=.int .i64 0) rfl;have z1:=H3.out.2.at 1 (v:=.string ⟨#[]⟩) rfl;have z2:=H3.out.2.at 2 (v:=.string ⟨#[]⟩) rfl;have z3:=H3.out.2.at 3 (v:=.string ⟨#[]⟩) rfl;have zf:=H3.out.2.fz;have zl:=H3.out.2.lt;go_wp2_with fail;have hsE:Sm No w _:=H3.out.1.fresh (((((Sm.refl (fun b=>b=b0) w3).set1 0 (.int .i64 0)).set1 1 (.string ⟨#[]⟩)).set1 2 (.string ⟨#[]⟩)).set1 3 (.string ⟨#[]⟩)) (fun b e=>by have:=HB0.out;omega);exact bodyPost_ret (v:=.tuple #[.agg #[.int .i64 0,.string ⟨#[]⟩,.string ⟨#[]⟩,.string ⟨#[]⟩],.int .i64 8]) (by simp [results,Tryz.results223,go_sem,z0,z1,z2,z3]) rfl (bq.none' hsE)
theorem Fa{l:ah}{c:UInt8}{i:Nat}(h:Lib.indexByte l c=i):i < l.length∧l.takeWhile (fun d=> !(d==c))=l.take i:=by
 obtain⟨hat,hbef⟩:=Lib.indexByte_some h;have hi:=(List.getElem?_eq_some_iff.1 hat).1;have hsp:l=l.take i++c::l.drop (i+1):=by
  have h3:l.drop i=c::l.drop (i+1):=by
   rw [List.drop_eq_getElem_cons hi];congr 1;rw [List.getElem?_eq_getElem hi] at hat;injection hat
  rw [←h3,List.take_append_drop]
 have ha:(l.take i).all (fun d=> !(d==c))=true:=by
  rw [List.all_eq_true];intro d hd;obtain⟨k,hk⟩:=List.getElem?_of_mem hd;rw [List.getElem?_take] at hk;split at hk
  ·rename_i hki
   cases h2:d==c with
   |false=>rfl
   |true=>rw [beq_iff_eq] at h2;subst h2;exact absurd hk (hbef k hki)
  ·cases hk
 refine⟨hi,?_⟩;have e:=iw (c::l.drop (i+1)) ha;rw [←hsp] at e;rw [e,List.takeWhile_cons_of_neg (by simp),List.append_nil]
theorem FR{l:ah}{c:UInt8}(h:Lib.indexByte l c= -1):l.takeWhile (fun d=> !(d==c))=l:=by
 have ha:l.all (fun d=> !(d==c))=true:=by
  rw [List.all_eq_true];intro d hd;obtain⟨k,hk⟩:=List.getElem?_of_mem hd
  cases h2:d==c with
  |false=>rfl
  |true=>rw [beq_iff_eq] at h2;subst h2;exact absurd hk (Lib.indexByte_none h k)
 have:=iw [] ha;rw [List.append_nil] at this;rw [this];simp
theorem xI:∀ l:ah,(l.takeWhile (fun d=> !(d==47))).takeWhile (fun d=> !(d==63))=l.takeWhile lL
 |[]=>rfl
 |c::l=>by
  cases h1:(c==47) with
  |true=>rw [List.takeWhile_cons_of_neg (by simp [h1]),List.takeWhile_cons_of_neg (by unfold lL;simp [h1])];rfl
  |false=>
   rw [List.takeWhile_cons_of_pos (by simp [h1])]
   cases h2:(c==63) with
   |true=>rw [List.takeWhile_cons_of_neg (by simp [h2]),List.takeWhile_cons_of_neg (by unfold lL;simp [h2])]
   |false=>rw [List.takeWhile_cons_of_pos (by simp [h2]),List.takeWhile_cons_of_pos (by unfold lL;simp [h1,h2]),xI l]
theorem xl(r:ByteArray)(c:UInt8):∃ (x:Int) (h:ByteArray),Lib.indexByte (af r) c=x∧af h=(af r).takeWhile (fun d=> !(d==c))∧h.size≤r.size∧((x < 0∧h=r)∨∃ k:Nat,x=k∧k≤r.size∧r.extract 0 k=h):=by
 rcases ce (af r) c with h|⟨k,h⟩
 ·exact⟨-1,r,h,(FR h).symm,Nat.le_refl _,Or.inl ⟨by decide,rfl⟩⟩
 ·obtain⟨h1,h2⟩:=Fa h;rw [ag] at h1;have e:af (r.extract 0 k)=(af r).take k:=by rw [bz];simp
  refine⟨k,r.extract 0 k,h,by rw [e,h2],?_,Or.inr ⟨k,rfl,by omega,rfl⟩⟩;rw [←ag,e,List.length_take,ag];omega
theorem Es(r:ByteArray):∃ a:ByteArray,af a=vA (af r)∧a.size≤r.size+1∧((Lib.hasPrefix (af r) (af ⟨#[47]⟩)=true∧a=r)∨(Lib.hasPrefix (af r) (af ⟨#[47]⟩)=false∧(⟨#[47]⟩++r:ByteArray)=a)):=by
 have e2:af (⟨#[47]⟩++r:ByteArray)=47::af r:=by simp [af]
 have z2:(⟨#[47]⟩++r:ByteArray).size≤r.size+1:=by rw [←ag,e2,List.length_cons,ag];exact Nat.le_refl _
 cases hr:af r with
 |nil=>exact⟨_,by rw [e2,hr];rfl,z2,Or.inr ⟨rfl,rfl⟩⟩
 |cons c rr=>
  by_cases hc:c=47
  ·subst hc;exact⟨r,by rw [hr];rfl,by omega,Or.inl ⟨by simp [Lib.hasPrefix,af],rfl⟩⟩
  ·refine⟨_,?_,z2,Or.inr ⟨by
    have e5:(47==c)=false:=by rw [beq_eq_false_iff_ne];exact fun e6=>hc e6.symm
    show (47==c&&_)=false;rw [e5,Bool.false_and],rfl⟩⟩
   rw [e2,hr];unfold vA;split
   ·rename_i e3
    injection e3 with e4 _;exact absurd e4 hc
   ·rfl
theorem Fe(m s t:ByteArray)(hs:s.size≤200)(h7:7≤s.size)(hmb:(m.toList==[67,79,78,78,69,67,84])=false)(h42:¬(m.toList=[79,80,84,73,79,78,83]∧s.toList=[42]))(HP:Hid (Lib.hasPrefix (af s) (af ⟨#[47]⟩)=false))(HT:Hid ((⟨(bV (af s)).toArray⟩:ByteArray)=t))(HP2:Hid (Lib.hasPrefix (af t) (af ⟨#[104,116,116,112,58,47,47]⟩)=true))(w:World)(hg:G0 w):Calls Tryz.prog 223 #[.string m,.string s] w (bq (lS (af (s.extract 7 s.size))) 8 w):=by
 have i1:¬(200:Int) < (s.size:Int):=by omega
 have HG:=aa hg;clear hg;obtain⟨rB,hrB⟩:=ai (s.extract 7 s.size);have hrz:rB.size≤200:=by rw [←hrB];simp;omega
 rw [hrB];obtain⟨x,h1B,hx,h1t,h1z,hxw⟩:=xl rB 47;obtain⟨y,hB2,hy,h2t,h2z,hyw⟩:=xl h1B 63;obtain⟨r2B,hr2⟩:=ai (rB.extract hB2.size rB.size);have h2ta:af hB2=(af rB).takeWhile lL:=by rw [h2t,h1t,xI]
 have hr2t:af r2B=(af rB).drop ((af rB).takeWhile lL).length:=by rw [←hr2,gx,←h2ta,ag]
 have hr2z:r2B.size≤200:=by rw [←ag,hr2t,List.length_drop,ag];omega
 have kb:(hB2.size:Int)≤(rB.size:Int):=by omega
 obtain⟨aB,ha,haz,haw⟩:=Es r2B;obtain⟨ho,hho⟩:=ai (eh (af hB2));have HAb:=aa (show lS (af rB)=if ho=true then Dk (af hB2) (fa (af aB)) else none from by unfold lS;rw [←h2ta,hho,ha,h2ta,←hr2t]);have HHo:=aa hho;have HX:=aa hx;have HY:=aa hy;have HXW:=aa hxw;have HYW:=aa hyw;have HR2:=aa hr2;have HAW:=aa haw;clear hho hx hy h1t h2t h2ta hr2t hxw hyw hr2 ha haw;obtain⟨b0,hb0⟩:=ai w.heap.size;have HB0:=aa hb0;clear hb0;go_in;go_upto_region 7 with fail;rw [HB0.out];obtain⟨w1,hw1⟩:∃ w1,w.alloc (.cells #[.int .i64 0,.string ⟨#[]⟩,.string ⟨#[]⟩,.string ⟨#[]⟩] 170)=w1:=⟨_,rfl⟩;have hs1:Sm No w w1:=by rw [←hw1];exact(Sm.refl No w).alloc _
 have h01:Bk w1 b0 170 #[.int .i64 0,.string ⟨#[]⟩,.string ⟨#[]⟩,.string ⟨#[]⟩]:=by rw [←hw1,←HB0.out];exact Bk.new w _ _
 rw [hw1];have H1:=aa (ab hs1 h01);clear hs1 h01 hw1
 go_cut [30] (fun c wx=>wx=w1∧c=.bool false)
 case first=>
  by_cases hmo:m.toList=[79,80,84,73,79,78,83]
  ·have h42b:(s.toList==[42])=false:=by
    have h43:¬s.toList=[42]:=fun e=>h42 ⟨hmo,e⟩;simpa using h43
   clear h42;go_wp2_with fail;go_meet;exact⟨rfl,rfl⟩
  ·have hmob:(m.toList==[79,80,84,73,79,78,83])=false:=by simpa using hmo
   clear h42;go_wp2_with fail;go_meet;exact⟨rfl,rfl⟩
 case rest=>
  obtain⟨rfl,rfl⟩:=hcut;obtain⟨w1,rfl⟩:∃ w1:World,w1=wc:=⟨_,rfl⟩;clear hmb h42;go_wp2_with fail;refine(dD HP _).mono ?_;rintro e w1 ⟨rfl,rfl⟩;go_wp2_with fail;refine(ml HT (by omega) _).mono ?_;rintro e w3 ⟨rfl,hs3⟩;have H3:=aa (ab (H1.out.1.tt hs3) (H1.out.2.sm hs3 (fun h=>h)));clear hs3;have k7:(7:Int)≤(s.size:Int):=by omega
  go_wp2_with fail;refine(dD HP2 _).mono ?_;rintro e w3 ⟨rfl,rfl⟩;go_wp2_with fail;refine(pk (c:=47) HX _).mono ?_;rintro e w3 ⟨rfl,rfl⟩;clear hrB k7;go_upto_if 56 with fail
  go_cut [7] (fun hv wx=>wx=w3∧hv=.string h1B)
  case first=>
   rcases HXW.out with ⟨h1,h2⟩|⟨k,h1,h2,h3⟩
   ·have i9:¬(0:Int)≤x:=by omega
    clear h1;go_wp2_with fail;go_meet;exact⟨rfl,by rw [h2]⟩
   ·subst h1;have i9:(k:Int)≤(rB.size:Int):=by omega
    clear h2;go_wp2_with fail;go_meet;exact⟨rfl,rfl⟩
  case rest=>
   obtain⟨rfl,rfl⟩:=hcut;obtain⟨w3,rfl⟩:∃ w3:World,w3=wc:=⟨_,rfl⟩;go_wp2_with fail;refine(pk (c:=63) HY _).mono ?_;rintro e w3 ⟨rfl,rfl⟩;go_upto_if 63 with fail
   go_cut [7] (fun hv wx=>wx=w3∧hv=.string hB2)
   case first=>
    rcases HYW.out with ⟨h1,h2⟩|⟨k,h1,h2,h3⟩
    ·have i9:¬(0:Int)≤y:=by omega
     clear h1;go_wp2_with fail;go_meet;exact⟨rfl,by rw [h2]⟩
    ·subst h1;have i9:(k:Int)≤(h1B.size:Int):=by omega
     clear h2;go_wp2_with fail;go_meet;exact⟨rfl,rfl⟩
   case rest=>
    obtain⟨rfl,rfl⟩:=hcut;obtain⟨w3,rfl⟩:∃ w3:World,w3=wc:=⟨_,rfl⟩;have hr2:=HR2.out;go_wp2_with fail;refine(iY HHo (by omega) _).mono ?_;rintro e w4 ⟨rfl,hs4⟩;have H4:=aa (ab (H3.out.1.tt hs4) (H3.out.2.sm hs4 (fun h=>h)));clear hs4;clear hr2
    cases ho with
    |false=>
     have HE:=aa (show lS (af rB)=none from by rw [HAb.out];rfl);have z0:=H4.out.2.at 0 (v:=.int .i64 0) rfl;have z1:=H4.out.2.at 1 (v:=.string ⟨#[]⟩) rfl;have z2:=H4.out.2.at 2 (v:=.string ⟨#[]⟩) rfl;have z3:=H4.out.2.at 3 (v:=.string ⟨#[]⟩) rfl;have zf:=H4.out.2.fz;have zl:=H4.out.2.lt;go_wp2_with fail;have hsE:Sm No w _:=H4.out.1.fresh (((((Sm.refl (fun b=>b=b0) w4).set1 0 (.int .i64 0)).set1 1 (.string ⟨#[]⟩)).set1 2 (.string ⟨#[]⟩)).set1 3 (.string ⟨#[]⟩)) (fun b e=>by have:=HB0.out;omega);exact bodyPost_ret (v:=.tuple #[.agg #[.int .i64 0,.string ⟨#[]⟩,.string ⟨#[]⟩,.string ⟨#[]⟩],.int .i64 8]) (by simp [results,Tryz.results223,go_sem,z0,z1,z2,z3]) rfl (by rw [HE.out];exact bq.none' hsE)
    |true=>
     obtain⟨sl,hsl⟩:∃ sl,Lib.hasPrefix (af r2B) (af ⟨#[47]⟩)=sl:=⟨_,rfl⟩;have HSl:=aa hsl;obtain⟨lB,hlB⟩:=ai ((⟨(bV (af hB2)).toArray⟩:ByteArray));have HLB:=aa hlB;obtain⟨O,hO⟩:=ai (fa (af aB));have HAb2:=aa (show lS (af rB)=Dk (af hB2) O from by rw [HAb.out,if_pos rfl,hO]);have HOr:=aa (fun (W:World) (h:G0 W)=>jD aB lB 2 (by omega) W h);unfold dg at HOr;rw [hO] at HOr;clear hlB hO hsl;go_wp2_with fail;refine(dD HSl _).mono ?_;rintro e w4 ⟨rfl,rfl⟩;go_upto_if 77 with fail
     go_cut [6] (fun rv wx=>wx=w4∧rv=.string aB)
     case first=>
      rcases HAW.out with ⟨h1,h2⟩|⟨h1,h2⟩
      ·have h3:sl=true:=HSl.out.symm.trans h1;subst h3;clear h1;go_wp2_with fail;go_meet;exact⟨rfl,by rw [h2]⟩
      ·have h3:sl=false:=HSl.out.symm.trans h1;subst h3;clear h1;go_wp2_with fail;go_meet;exact⟨rfl,by rw [←h2]⟩
     case rest=>
      obtain⟨rfl,rfl⟩:=hcut;obtain⟨w4,rfl⟩:∃ w4:World,w4=wc:=⟨_,rfl⟩;go_wp2_with fail;refine(ml HLB (by omega) _).mono ?_;rintro e w5 ⟨rfl,hs5⟩;have H5:=aa (ab (H4.out.1.tt hs5) (H4.out.2.sm hs5 (fun h=>h)));clear hs5
      cases O with
      |none=>
       dsimp only at HOr;unfold qz at HOr;have HE:=aa (show lS (af rB)=none from by rw [HAb2.out];rfl);go_wp2_with fail;refine(HOr.out w5 (HG.out.no H5.out.1)).mono ?_;rintro e w6 ⟨hs6,rfl⟩;have H6:=aa (ab (H5.out.1.tt hs6) (H5.out.2.sm hs6 (fun h=>h)));clear hs6;have z0:=H6.out.2.at 0 (v:=.int .i64 0) rfl;have z1:=H6.out.2.at 1 (v:=.string ⟨#[]⟩) rfl;have z2:=H6.out.2.at 2 (v:=.string ⟨#[]⟩) rfl;have z3:=H6.out.2.at 3 (v:=.string ⟨#[]⟩) rfl;have zf:=H6.out.2.fz;have zl:=H6.out.2.lt;go_wp2_with fail;have hsE:Sm No w _:=H6.out.1.fresh (((((Sm.refl (fun b=>b=b0) w6).set1 0 (.int .i64 0)).set1 1 (.string ⟨#[]⟩)).set1 2 (.string ⟨#[]⟩)).set1 3 (.string ⟨#[]⟩)) (fun b e=>by have:=HB0.out;omega);exact bodyPost_ret (v:=.tuple #[.agg #[.int .i64 0,.string ⟨#[]⟩,.string ⟨#[]⟩,.string ⟨#[]⟩],.int .i64 8]) (by simp [results,Tryz.results223,go_sem,z0,z1,z2,z3]) rfl (by rw [HE.out];exact bq.none' hsE)
      |some pq=>
       obtain⟨p,q⟩:=pq;dsimp only at HOr;have HE:=aa (show lS (af rB)=some ⟨2,bV (af hB2),p,q⟩ from by rw [HAb2.out];rfl);go_wp2_with fail;refine(HOr.out w5 (HG.out.no H5.out.1)).mono ?_;rintro e w6 ⟨hs6,rfl⟩;have H6:=aa (ab (H5.out.1.tt hs6) (H5.out.2.sm hs6 (fun h=>h)));clear hs6;have z0:=H6.out.2.at 0 (v:=.int .i64 0) rfl;have z1:=H6.out.2.at 1 (v:=.string ⟨#[]⟩) rfl;have z2:=H6.out.2.at 2 (v:=.string ⟨#[]⟩) rfl;have z3:=H6.out.2.at 3 (v:=.string ⟨#[]⟩) rfl;have zf:=H6.out.2.fz;have zl:=H6.out.2.lt;go_wp2_with fail;have hsE:Sm No w _:=H6.out.1.fresh (((((Sm.refl (fun b=>b=b0) w6).set1 0 (.int .i64 2)).set1 1 (.string lB)).set1 2 (.string ⟨p.toArray⟩)).set1 3 (.string ⟨q.toArray⟩)) (fun b e=>by have:=HB0.out;omega);exact bodyPost_ret (v:=.tuple #[.agg #[.int .i64 2,.string lB,.string ⟨p.toArray⟩,.string ⟨q.toArray⟩],.int .i64 0]) (by simp [results,Tryz.results223,go_sem,z0,z1,z2,z3]) rfl (by
        have h:=bq.some' (t:=⟨2,bV (af hB2),p,q⟩) (c:=8) hsE;dsimp only at h;rw [HLB.out] at h;rw [HE.out];exact h)
theorem Cy{s:ByteArray}{t:ByteArray}(ht:(⟨(bV (af s)).toArray⟩:ByteArray)=t):Lib.hasPrefix (af t) (af ⟨#[104,116,116,112,58,47,47]⟩)=true↔(dp ((af s).take 7) pA=true∧7≤(af s).length):=by
 have e1:af t=bV (af s):=by rw [←ht];simp [af]
 have e2:bV pA=pA:=by decide
 rw [e1,←Lib.hasPrefix_of_take];show (decide (7≤(bV (af s)).length)&&((bV (af s)).take 7==pA))=true↔_;unfold dp;rw [e2];have e3:(bV (af s)).length=(af s).length:=by simp [bV]
 have e4:(bV (af s)).take 7=bV ((af s).take 7):=by simp [bV]
 rw [e3,e4,Bool.and_eq_true,decide_eq_true_iff];exact And.comm
theorem uE(m s:ByteArray)(hs:s.size≤100000)(w:World)(hg:G0 w):
 Calls Tryz.prog 223 #[.string m,.string s] w (bq (dJ (af m) (af s)).1 (dJ (af m) (af s)).2 w):=by
 have hl:(af s).length=s.size:=ag s;by_cases h1:200 < s.size
 ·have e:dJ (af m) (af s)=(none,9):=by unfold dJ;rw [if_pos (by omega)]
  rw [e];exact Dx m s h1 w
 have h2:s.size≤200:=by omega
 by_cases hc:af m=rf
 ·have hm:m.toList=[67,79,78,78,69,67,84]:=by rw [ByteArray.toList_eq];exact hc
  have e:dJ (af m) (af s)=if eh (af s)=true∧oM 58 (af s)=true then (some ⟨3,bV (af s),[],[]⟩,0) else (none,8):=by unfold dJ;rw [if_neg (by omega),if_pos hc]
  rw [e]
  cases hI:oM 58 (af s) with
  |false=>
   rw [if_neg (fun h=>by cases h.2)];exact Ex m s h2 hm (aa hI) w
  |true=>
   cases hH:eh (af s) with
   |false=>
    rw [if_neg (fun h=>by cases h.1)];exact Dq m s h2 hm (aa hI) (aa hH) w
   |true=>
    rw [if_pos ⟨rfl,rfl⟩];exact DN m s h2 hm (aa hI) (aa hH) w
 have hmb:(m.toList==[67,79,78,78,69,67,84])=false:=by
  have h3:¬m.toList=[67,79,78,78,69,67,84]:=fun e=>by rw [ByteArray.toList_eq] at e;exact hc e
  simpa using h3
 by_cases ho:af m=tv∧af s=[42]
 ·have e:dJ (af m) (af s)=(some ⟨4,[],[],[]⟩,0):=by unfold dJ;rw [if_neg (by omega),if_neg hc,if_pos ho]
  rw [e];exact Fb m s h2 (by rw [ByteArray.toList_eq];exact ho.1) (by rw [ByteArray.toList_eq];exact ho.2) w
 have h42:¬(m.toList=[79,80,84,73,79,78,83]∧s.toList=[42]):=fun h=>ho ⟨by have h3:=h.1;rw [ByteArray.toList_eq] at h3;exact h3,by have h3:=h.2;rw [ByteArray.toList_eq] at h3;exact h3⟩;have hh:Lib.hasPrefix (af s) (af ⟨#[47]⟩)=true↔(af s).head?=some 47:=by
  cases af s with
  |nil=>simp [Lib.hasPrefix,af]
  |cons c r=>
   show (47==c&&true)=true↔some c=some 47;rw [Bool.and_true,beq_iff_eq,Option.some.injEq];exact eq_comm
 by_cases hp:(af s).head?=some 47
 ·have HP:=aa (hh.2 hp)
  cases hO:fa (af s) with
  |none=>
   have e:dJ (af m) (af s)=(none,8):=by unfold dJ;rw [if_neg (by omega),if_neg hc,if_neg ho,if_pos hp,hO]
   rw [e];exact EE m s h2 hmb h42 HP hO w hg
  |some pq=>
   obtain⟨p,q⟩:=pq;have e:dJ (af m) (af s)=(some ⟨1,[],p,q⟩,0):=by unfold dJ;rw [if_neg (by omega),if_neg hc,if_neg ho,if_pos hp,hO]
   rw [e];exact Ee m s h2 hmb h42 HP p q hO w hg
 have HP:=aa (show Lib.hasPrefix (af s) (af ⟨#[47]⟩)=false from by
  cases h:Lib.hasPrefix (af s) (af ⟨#[47]⟩) with
  |false=>rfl
  |true=>exact absurd (hh.1 h) hp)
 obtain⟨t,ht⟩:=ai ((⟨(bV (af s)).toArray⟩:ByteArray));have h7:=Cy ht;by_cases ha:dp ((af s).take 7) pA=true∧7≤(af s).length
 ·have e:dJ (af m) (af s)=(lS ((af s).drop 7),8):=by unfold dJ;rw [if_neg (by omega),if_neg hc,if_neg ho,if_neg hp,if_pos ha]
  have e9:lS ((af s).drop 7)=lS (af (s.extract 7 s.size)):=by rw [gx]
  have hz:7≤s.size:=by omega
  have hP2:=h7.2 ha;rw [e,e9];exact Fe m s t h2 hz hmb h42 HP (aa ht) (aa hP2) w hg
 ·have e:dJ (af m) (af s)=(none,8):=by unfold dJ;rw [if_neg (by omega),if_neg hc,if_neg ho,if_neg hp,if_neg ha]
  rw [e];exact Dw m s t h2 hmb h42 HP (aa ht) (aa (by
   cases h:Lib.hasPrefix (af t) (af ⟨#[104,116,116,112,58,47,47]⟩) with
   |false=>rfl
   |true=>exact absurd (h7.1 h) ha)) w
def AO(st:Int):List PanicEntry:=[{v:=.iface 282 (.agg #[.int .i64 st]),recovered:=false}]
theorem bP(st:Int)(w:World):Calls Tryz.prog 225 #[.bool true,.int .i64 st] w fun e w'=>e=.returned (.tuple #[])∧w'=w:=by
 go_in;go_wp2_with fail
 go_end0
 exact⟨rfl,rfl⟩
theorem cQ(st:Int)(w:World):Calls Tryz.prog 225 #[.bool false,.int .i64 st] w fun e w'=>e=.panicked (AO st)∧w'=w:=by
 go_in;go_wp2_with fail;exact⟨rfl,rfl,rfl⟩
def Bm(w:World)(T:Option (List ah))(e:Ending)(w':World):Prop:=
 Sm No w w'∧match T with
  |some r=>∃ v,e=.returned v∧bi w' w.heap.size v r
  |none=>e=.panicked (AO 400)
theorem nk(w:World)(B g:Nat)(v:Value)(l:List aM)(name:ByteArray)(hg:G0 w)(hF:aA w B g 214 v l)(hL:fT l)(hn:name.size≤1000000):
 Calls Tryz.prog 229 #[.pointer (some ⟨g,0,none⟩),.string name] w (Bm w (aO (ar (ak l name)))):=by
 have HV:=aa (gJ w B g v l name hF hL.len hL.short hn);have HLt:=aa (hL.light name);obtain⟨xs,hxs⟩:=ai (ak l name);unfold jy at HV;rw [hxs] at HV HLt ⊢;have HG:=aa hg;obtain⟨T,hT⟩:=ai (aO (ar xs));rw [hT];have HT:=aa hT;clear hF hL hxs hg hT;go_in;go_wp2_with fail;refine HV.out.mono ?_;rintro e w1 ⟨vs,rfl,hO,hs1⟩;obtain⟨A1,c1,rfl,hR1⟩:=hO.row;have H1:=aa hs1;have HTk:=aa (HLt.out.tokens w1 A1 c1 (HG.out.no hs1) hR1);unfold pH at HTk;rw [HT.out] at HTk;clear hO hR1 hs1;go_wp2_with fail;refine HTk.out.mono ?_;rintro e w2 h2
 cases T with
 |none=>
  obtain⟨_,rfl,hs2⟩:=h2.resolve_left (fun ⟨r,_,e,_⟩=>by cases e);have H2:=aa (H1.out.tt hs2);clear hs2;go_wp2_with fail;refine(cQ 400 _).mono ?_;rintro e w3 ⟨rfl,rfl⟩;exact⟨rfl,H2.out,rfl⟩
 |some r=>
  obtain⟨r',v',er,rfl,hO2,hs2⟩:=h2.resolve_right (fun ⟨e,_⟩=>by cases e);injection er with er;subst er;have H2:=aa (ab (H1.out.tt hs2) (bI hO2 (fun b e=>Nat.le_trans H1.out.size (World.ownsRow.lt hO2 b e).1)));clear hs2 hO2;go_wp2_with fail;refine(bP 400 _).mono ?_;rintro e w3 ⟨rfl,rfl⟩;go_wp2_with fail;go_ret;exact⟨H2.out.1,v',rfl,H2.out.2⟩
theorem Ay(w:World)(A:Option Addr)(c:Nat)(r:List ah)(x:ByteArray)(hR:ax w A (r.map aP))(hl:r.length≤100000):
 ∃ i:Int,(Calls Tryz.prog 123 #[.slice A r.length c,.string x] w fun e w'=>e=.returned (.int .i64 i)∧w'=w)∧
   ((i= -1∧∀ t∈r,t≠af x)∨∃ k:Nat,i=k∧k < r.length∧r[k]?=some (af x)∧∀ t∈r.take k,t≠af x):=by
 cases hr:r with
 |nil=>
  refine⟨_,Tryz.slices_Index_string_empty A c x w,Or.inl ⟨by have:=Lib.idxOfS_miss [] 0 x (fun j hj=>absurd hj (Nat.not_lt_zero _));simpa using this,fun t ht=>by cases ht⟩⟩
 |cons t0 r0=>
  rw [←hr];obtain⟨b,off,rfl,_,_⟩:=hR 0 (aP t0) (by rw [hr];rfl);obtain⟨zs,hzs⟩:=ai (r.map (fun t=>(⟨t.toArray⟩:ByteArray)));have hzl:zs.length=r.length:=by rw [←hzs,List.length_map]
  have hget:∀ j,(hj:j < r.length)→zs.getD j ByteArray.empty=⟨r[j].toArray⟩:=fun j hj=>by
   rw [←hzs,List.getD_eq_getElem?_getD,List.getElem?_map,List.getElem?_eq_getElem hj];rfl
  have hC:=Tryz.slices_Index_string b off r.length c zs x w (by omega) (by omega) (fun j hj=>by
   have hj2:j < r.length:=by omega
   obtain⟨b2,o2,e,_,h⟩:=hR j (aP r[j]) (by rw [List.getElem?_map,List.getElem?_eq_getElem hj2];rfl);injection e with e;injection e with e1 e2;subst e1 e2;rw [hget j hj2];exact h)
  have heq:∀ j,(hj:j < r.length)→((⟨r[j].toArray⟩:ByteArray)=x↔r[j]=af x):=fun j hj=>by
   constructor
   ·intro e;rw [←e];simp [af]
   ·intro e;rw [e];exact iO x
  by_cases hm:af x∈r
  ·obtain⟨k,hk⟩:=ai (r.findIdx (fun t=>t==af x));have hkl:k < r.length:=by rw [←hk];exact List.findIdx_lt_length_of_exists ⟨_,hm,by simp⟩
   have hka:r[k]=af x:=by
    have:=List.findIdx_getElem (p:=fun t=>t==af x) (xs:=r) (w:=by rw [hk];exact hkl);simp only [hk] at this;simpa using this
   have hkb:∀ j,(hj:j < k)→r[j]'(by omega)≠af x:=fun j hj=>by
    have:=List.not_of_lt_findIdx (p:=fun t=>t==af x) (xs:=r) (i:=j) (by rw [hk];exact hj);simpa using this
   have hi:=Lib.idxOfS_hit zs r.length k x hkl (by omega) (by rw [hget k hkl];exact(heq k hkl).2 hka) (fun j hj=>by
    rw [hget j (by omega)];exact fun e=>hkb j hj ((heq j (by omega)).1 e))
   rw [hi] at hC;refine⟨k,hC,Or.inr ⟨k,rfl,hkl,by rw [List.getElem?_eq_getElem hkl,hka],fun t ht=> ?_⟩⟩;obtain⟨j,hj⟩:=List.getElem?_of_mem ht;rw [List.getElem?_take] at hj;split at hj
   ·rename_i hjk
    rw [List.getElem?_eq_getElem (by omega)] at hj;injection hj with hj;rw [←hj];exact hkb j hjk
   ·cases hj
  ·have hi:=Lib.idxOfS_miss zs r.length x (fun j hj=>by
    rw [hget j hj];exact fun e=>hm (by rw [←(heq j hj).1 e];exact List.getElem_mem hj))
   rw [hi] at hC;exact⟨-1,hC,Or.inl ⟨rfl,fun t ht e=>hm (e ▸ ht)⟩⟩
def DQ(w:World)(st:Int)(e:Ending)(w':World):Prop:=w'=w∧((st=0∧e=.returned (.tuple #[]))∨(st≠0∧e=.panicked (AO st)))
theorem zb{r:List ah}(h:∀ t∈r,t≠bM):jf r=400:=by
 refine xD (fun e=> ?_);exact h _ (List.mem_of_getLast? e) rfl
theorem Ek{r:List ah}{k:Nat}(hk:k < r.length)(ha:r[k]?=some bM)(hb:∀ t∈r.take k,t≠bM):jf r=if k+1=r.length then (if k=0 then 0 else 501) else 400:=by
 by_cases h1:k+1=r.length
 ·rw [if_pos h1];have hl:r.getLast?=some bM:=by rw [List.getLast?_eq_getElem?,show r.length-1=k by omega];exact ha
  by_cases h0:k=0
  ·rw [if_pos h0];exact CR hl (by omega)
  ·rw [if_neg h0];refine vN hl (by omega) ?_;rw [List.any_eq_false];intro t ht e;rw [List.dropLast_eq_take,show r.length-1=k by omega] at ht;exact hb t ht (by simpa using e)
 ·rw [if_neg h1];by_cases hl:r.getLast?=some bM
  ·refine Br hl (by omega) ?_;rw [List.any_eq_true];refine⟨bM,?_,by simp⟩;rw [List.dropLast_eq_take];refine List.mem_of_getElem? (i:=k) ?_;rw [List.getElem?_take,if_pos (by omega)];exact ha
  ·exact xD hl
theorem zx(w:World)(A:Option Addr)(c:Nat)(r:List ah)(hR:ax w A (r.map aP))(hl:r.length≤100000):
 Calls Tryz.prog 228 #[.slice A r.length c] w (DQ w (jf r)):=by
 obtain⟨i,hC,hi⟩:=Ay w A c r ⟨#[99,104,117,110,107,101,100]⟩ hR hl;have HC:=aa hC;have hx:af ⟨#[99,104,117,110,107,101,100]⟩=bM:=rfl;rw [hx] at hi;obtain⟨n,hn⟩:=ai r.length;obtain⟨st,hst⟩:=ai (jf r);rw [hn] at HC ⊢;rw [hst];clear hC;rcases hi with ⟨rfl,hno⟩|⟨k,rfl,hk,ha,hb⟩
 ·have HS:=aa (show st=400 from by rw [←hst];exact zb hno);clear hno hst;go_in;go_wp2_with fail;refine HC.out.mono ?_;rintro e w1 ⟨rfl,rfl⟩;go_wp2_with fail;refine(cQ 400 _).mono ?_;rintro e w2 ⟨rfl,rfl⟩;exact⟨rfl,rfl,Or.inr ⟨by rw [HS.out];decide,by rw [HS.out]⟩⟩
 ·have hct:=Ek hk ha hb;rw [hn] at hct hk;rw [hst] at hct;clear ha hb hst;by_cases h1:k+1=n
  ·rw [if_pos h1] at hct;have j1:((k:Int)==(n:Int)-1)=true:=by rw [beq_iff_eq];omega
   have j2:(k:Int)=(n:Int)-1:=by omega
   by_cases h0:k=0
   ·rw [if_pos h0] at hct;have HS:=aa hct;subst h0;obtain rfl:n=1:=by omega
    clear hct j1 j2;go_in;go_wp2_with fail;refine HC.out.mono ?_;rintro e w1 ⟨rfl,rfl⟩;go_wp2_with fail;refine(bP 400 _).mono ?_;rintro e w2 ⟨rfl,rfl⟩;go_wp2_with fail;refine(bP 501 _).mono ?_;rintro e w2 ⟨rfl,rfl⟩;go_wp2_with fail
    go_end0
    exact⟨rfl,Or.inl ⟨HS.out,rfl⟩⟩
   ·rw [if_neg h0] at hct;have HS:=aa hct;have j3:((k:Int)==0)=false:=by rw [beq_eq_false_iff_ne];omega
    clear hct j2;go_in;go_wp2_with fail;refine HC.out.mono ?_;rintro e w1 ⟨rfl,rfl⟩;go_wp2_with fail;refine(bP 400 _).mono ?_;rintro e w2 ⟨rfl,rfl⟩;go_wp2_with fail;refine(cQ 501 _).mono ?_;rintro e w2 ⟨rfl,rfl⟩;exact⟨rfl,rfl,Or.inr ⟨by rw [HS.out];decide,by rw [HS.out]⟩⟩
  ·rw [if_neg h1] at hct;have HS:=aa hct;have j1:((k:Int)==(n:Int)-1)=false:=by rw [beq_eq_false_iff_ne];omega
   have j2:¬(k:Int)=(n:Int)-1:=by omega
   clear hct;go_in;go_wp2_with fail;refine HC.out.mono ?_;rintro e w1 ⟨rfl,rfl⟩;go_wp2_with fail;refine(cQ 400 _).mono ?_;rintro e w2 ⟨rfl,rfl⟩;exact⟨rfl,rfl,Or.inr ⟨by rw [HS.out];decide,by rw [HS.out]⟩⟩
def tI(w:World)(p:Int × Int)(e:Ending)(w':World):Prop:=Sm No w w'∧((p.2=0∧e=.returned (.int .i64 p.1))∨(p.2≠0∧e=.panicked (AO p.2)))
def Eb(w:World)(r:List ah)(n0:Int)(nv iv:Value)(wr:World):Prop:=∃ (k:Nat) (n:Int),k≤r.length∧iv=.int .i64 k∧nv=.int .i64 n∧(k≠0→n=n0)∧Sm No w wr∧(r.take k).all (sM n0)=true
theorem tC(w:World)(A:Option Addr)(c:Nat)(r:List ah)(hR:ax w A (r.map aP))(hl:r.length≤100000)(hz:∀ t∈r,t.length≤100000):
 Calls Tryz.prog 230 #[.slice A r.length c] w (tI w (lM r)):=by
 obtain⟨R,hRR⟩:=ai (lM r);rw [hRR]
 cases hr:r with
 |nil=>
  have HS:=aa (show R=(0,400) from by rw [←hRR,hr];rfl);show Calls Tryz.prog 230 #[.slice A 0 c] w (tI w R);clear hR hl hz hRR hr;go_in;go_wp2_with fail;refine(cQ 400 _).mono ?_;rintro e w2 ⟨rfl,rfl⟩;exact⟨rfl,Sm.refl _ _,Or.inr ⟨by rw [HS.out];decide,by rw [HS.out]⟩⟩
 |cons t0 r0=>
  rw [←hr];obtain⟨n0,hn0⟩:=ai ((fW t0).1);have HLen:=aa (show R=pm n0 r from by rw [←hRR,hr,DF,hn0]);have h00:r[0]?=some t0:=by rw [hr];rfl
  have hpos:0 < r.length:=by rw [hr];simp
  have hb0:=pS t0 (hz t0 (by rw [hr];exact List.mem_cons_self));rw [hn0] at hb0;obtain⟨m,hm⟩:=ai r.length;have HM:=aa hm;have H:=aa (ab hR (ab hz (ab h00 hn0)));rw [hm] at hl hpos ⊢;have j0:(0:Int) < (m:Int):=by omega
  clear hR hz hRR hr h00 hn0 hm;go_in;go_wp2_with fail;refine(bP 400 _).mono ?_;rintro e w1 ⟨rfl,rfl⟩;go_wp2_with fail
  go_loopw [3,14] (fun nv iv wr=>Eb w1 r n0 nv iv wr) (fun _ iv _=>m-(intOf iv).toNat)
  case atStart=>exact⟨0,0,Nat.zero_le _,rfl,rfl,fun h=>absurd rfl h,Sm.refl _ _,by simp⟩
  case round=>
   obtain⟨k,n,hk,rfl,rfl,hn,hs,hall⟩:=hrel;rw [HM.out] at hk;have HS:=aa (ab hs (ab hall hn));clear hs hall hn;by_cases hlt:k < m
   ·have hkl:k < r.length:=by rw [HM.out];exact hlt
    obtain⟨x,hx⟩:=ai ((⟨(r[k]).toArray⟩:ByteArray));have hxt:af x=r[k]:=by rw [←hx];simp [af]
    obtain⟨b1,o1,hA1,hb1,e0⟩:=(H.out.1.no HS.out.1).at (j:=k) (u:=.string x) (by rw [List.getElem?_map,List.getElem?_eq_getElem hkl,←hx];rfl);subst hA1;obtain⟨⟨a,ok⟩,hnum⟩:∃ p,fW (af x)=p:=⟨_,rfl⟩;have hab:=pS (af x) (by rw [hxt];exact H.out.2.1 _ (List.getElem_mem hkl));rw [hnum] at hab;have HNum:=aa hnum;have HP:=aa (show sM n0 r[k]=(ok&&a==n0) from by unfold sM;rw [←hxt,hnum]);have hxz:x.size≤100000:=by rw [←ag,hxt];exact H.out.2.1 _ (List.getElem_mem hkl)
    have HBad:=aa (fun (h:(ok&&a==n0)=false)=>show R=(0,400) from by rw [HLen.out];exact Ap (List.getElem_mem hkl) (HP.out.trans h));have HGood:=aa (fun (h:(ok&&a==n0)=true)=>xY hkl HS.out.2.1 (HP.out.trans h));have HK0:=aa (fun (h:k=0)=>show a=n0 from by
     subst h;have h1:=H.out.2.2.1;rw [List.getElem?_eq_getElem hkl] at h1;injection h1 with h1;rw [←H.out.2.2.2,←h1,←hxt,hnum])
    have k1:(0:Int)≤(k:Int):=by omega
    have k2:(k:Int) < (m:Int):=by omega
    clear hx hxt hnum;dsimp only at hab;go_wp2_with fail;refine(wU HNum (by omega) _).mono ?_;rintro e w2 ⟨rfl,hs2⟩;have H2:=aa (HS.out.1.tt hs2);clear hs2 e0 hb1
    cases ok with
    |false=>
     have HE:=aa (HBad.out rfl);go_wp2_with fail;refine(cQ 400 _).mono ?_;rintro e w3 ⟨rfl,rfl⟩;exact⟨rfl,H2.out,Or.inr ⟨by rw [HE.out];decide,by rw [HE.out]⟩⟩
    |true=>
     by_cases h0:k=0
     ·have ha:=HK0.out h0;have HT:=aa (HGood.out (by rw [ha];simp));subst h0;go_wp2_with fail;refine(bP 400 _).mono ?_;rintro e w3 ⟨rfl,rfl⟩;go_wp2_with fail;exact⟨⟨1,n0,by omega,rfl,rfl,fun _=>rfl,H2.out,HT.out⟩,by simp [intOf];omega⟩
     ·have hnn:=HS.out.2.2 h0;subst hnn;have z0:((k:Int)==0)=false:=by rw [beq_eq_false_iff_ne];omega
      by_cases ha:a=n
      ·have HT:=aa (HGood.out (by rw [ha];simp));have z1:(a==n)=true:=by rw [ha];simp
       go_wp2_with fail;refine(bP 400 _).mono ?_;rintro e w3 ⟨rfl,rfl⟩;go_wp2_with fail;exact⟨⟨k+1,_,by omega,by go_num,rfl,fun _=>(by first|exact ha|rfl),H2.out,HT.out⟩,by simp [intOf];omega⟩
      ·have HE:=aa (HBad.out (by simp [ha]));have z1:(a==n)=false:=by rw [beq_eq_false_iff_ne];exact ha
       go_wp2_with fail;refine(cQ 400 _).mono ?_;rintro e w3 ⟨rfl,rfl⟩;exact⟨rfl,H2.out,Or.inr ⟨by rw [HE.out];decide,by rw [HE.out]⟩⟩
   ·obtain rfl:k=m:=by omega
    have hnn:=HS.out.2.2 (by omega);subst hnn;have hall:=HS.out.2.1;rw [List.take_of_length_le (by rw [HM.out];exact Nat.le_refl _)] at hall;have HE:=aa (HLen.out.trans (AE hall));clear hall;by_cases hbig:2048 < n
    ·have d1:¬n≤2048:=by omega
     have HE2:=aa (show R=(0,413) from by rw [HE.out,if_pos hbig]);have d2:decide (n≤2048)=false:=decide_eq_false d1;clear hbig;go_wp2_with fail;refine(cQ 413 _).mono ?_;rintro e w3 ⟨rfl,rfl⟩;exact⟨rfl,HS.out.1,Or.inr ⟨by rw [HE2.out];decide,by rw [HE2.out]⟩⟩
    ·have d1:n≤2048:=by omega
     have HE2:=aa (show R=(n,0) from by rw [HE.out,if_neg hbig]);have d2:decide (n≤2048)=true:=decide_eq_true d1;clear hbig;go_wp2_with fail;refine(bP 413 _).mono ?_;rintro e w3 ⟨rfl,rfl⟩;go_wp2_with fail;go_ret;exact⟨HS.out.1,Or.inl ⟨by rw [HE2.out],by rw [HE2.out];rfl⟩⟩
theorem uI(p q:Addr)(w:World):
 CallsD Tryz.prog 224 #[.pointer (some p),.pointer (some q)] .returning w fun e u' w'=>e=.returned (.tuple #[])∧u'=.returning∧w'=w:=by
 refine callsD_of_wpS Tryz.func224 rfl fun c₀ cs hu=> ?_;apply wpS_seq;apply wpS_region;simp [wpOpsS,go_sem,recoverD,hu,Tryz.ntmps224,Exit.thenS];have hnil:∀ w:World,(binOp BinOp.eql 20 .nilIface .nilIface).run Tryz.prog w=.ok (.bool true) w:=fun _=>by kernel_rfl
 refine wpS_of_wp ?_;go_wp2_with fail
 cases c₀
 simp_all [bodyPostS,results,Tryz.results224]
theorem Az(b1 b2:Nat)(v0 v1 v2 v3:Value)(s0:Value)(st:Int)(older:List PanicEntry)(w:World)(h1:Bk w b1 185 #[v0,v1,v2,v3])(h2:Bk w b2 3 #[s0])(hne:b1≠b2):
 CallsD Tryz.prog 224 #[.pointer (some ⟨b1,0,none⟩),.pointer (some ⟨b2,0,none⟩)] (.panicking ({v:=.iface 282 (.agg #[.int .i64 st]),recovered:=false}::older)) w fun e u' w'=>
  e=.returned (.tuple #[])∧u'=.panicking ({v:=.iface 282 (.agg #[.int .i64 st]),recovered:=true}::older)∧Sm (fun b=>b=b1∨b=b2) w w'∧Bk w' b1 185 #[.int .i64 0,.int .i64 0,.bool false,.bool false]∧Bk w' b2 3 #[.int .i64 st]:=by
 have HB:=aa (ab h1 h2);have l1:=h1.lt;have l2:=h2.lt;clear h1 h2;refine callsD_of_wpS Tryz.func224 rfl fun c₀ cs hu=> ?_;apply wpS_seq;apply wpS_region;simp [wpOpsS,go_sem,recoverD,hu,Tryz.ntmps224,Exit.thenS];have hnil:∀ w:World,(binOp BinOp.eql 20 (.iface 282 (.agg #[.int .i64 st])) .nilIface).run Tryz.prog w=.ok (.bool false) w:=fun _=>by kernel_rfl
 have hta:∀ w:World,(Instr.typeAssert (.iface 282 (.agg #[.int .i64 st])) 20 282 true).run Tryz.prog w=.ok (.tuple #[.agg #[.int .i64 st],.bool true]) w:=fun _=>by kernel_rfl
 refine wpS_of_wp ?_;go_wp2_with fail;have n1:b1≠w.heap.size:=by omega
 have n2:b2≠w.heap.size:=by omega
 have d1:=fun i=>cell_of_row _ b1 i _ _ (0,0) HB.out.1;have d2:=fun i=>cell_of_row _ b2 i _ _ (0,0) HB.out.2;have e1:=HB.out.1.fz;have e2:=HB.out.2.fz;have hne2:=hne.symm
 go_region
 all_goals
  clear d1 d2 e1 e2;go_wp2_with fail
  cases c₀
  simp_all [bodyPostS,results,Tryz.results224]
  first
   |exact⟨((((((((Sm.refl _ w).setS (Or.inl rfl) 0 _).setS (Or.inl rfl) 1 _).setS (Or.inl rfl) 2 _).setS (Or.inl rfl) 3 _).setS (Or.inr rfl) 0 _).alloc _).drew),(((((((HB.out.1.set 0 _).set 1 _).set 2 _).set 3 _).far hne _).alloc _).drew.eq rfl),(((((((HB.out.2.far hne2 _).far hne2 _).far hne2 _).far hne2 _).set 0 _).alloc _).drew.eq rfl)⟩
   |exact⟨((((((((Sm.refl _ w).setS (Or.inr rfl) 0 _).setS (Or.inl rfl) 0 _).setS (Or.inl rfl) 1 _).setS (Or.inl rfl) 2 _).setS (Or.inl rfl) 3 _).alloc _).drew),(((((((HB.out.1.far hne _).set 0 _).set 1 _).set 2 _).set 3 _).alloc _).drew.eq rfl),(((((((HB.out.2.set 0 _).far hne2 _).far hne2 _).far hne2 _).far hne2 _).alloc _).drew.eq rfl)⟩
end Go.Proofs.YtadcjgopaadfjaaGreatDoor
