import Derived.Test.YtcflkcbogofgbaaGreatDoorQOT
import Derived.Test.YtcflkcbogofgbaaGreatDoorQRQ
import Derived.Laws.AppendOwnNone
import Derived.Laws.AppendOwn
import Derived.Test.YtcflkcbogofgbaaGreatDoorQOU
import Derived.Test.YtcflkcbogofgbaaGreatDoorQOV
set_option maxHeartbeats 32000000
set_option maxRecDepth 100000
namespace Go.Proofs.YtcflkcbogofgbaaGreatDoor
open Go.RowKit Go.Proofs
def Je(l:af):List Int:=l.map fun c=>(c.toNat:Int)
theorem Jg(l:af):(Je l).length=l.length:=by simp [Je]
theorem I8(l:af):Lib.bytesOf (Je l)=l:=by
 unfold Lib.bytesOf Je;rw [List.map_map]
 conv=>rhs;rw [←List.map_id l]
 apply List.map_congr_left;intro b _;simp
theorem ar.bytesIn{w:World}{A:Option Addr}{l:af}(h:ar w A (bC l)):Lib.BytesIn w A l.length (Je l):=fun hn=>by
 obtain⟨b,o,rfl,_,_⟩:=h 0 _ (show (bC l)[0]?=some (.int .u8 ((l[0]).toNat:Int)) by simp only [bC,List.getElem?_map,List.getElem?_eq_getElem hn,Option.map_some]);refine⟨b,o,rfl,fun i hi=> ?_⟩;obtain⟨b2,o2,e,_,hc⟩:=h i _ (show (bC l)[i]?=some (.int .u8 ((l[i]).toNat:Int)) by simp only [bC,List.getElem?_map,List.getElem?_eq_getElem hi,Option.map_some]);injection e with e;injection e with e1 e2;subst e1 e2;rw [hc];simp [Je,hi]
def Jm(w:World)(K:Nat→Prop)(v:Value)(l:af):Prop:=∃ A c,v=.slice A l.length c∧ar w A (bC l)∧(l.length≤c∧(A=none→c=0))∧∀ a,A=some a→l≠[]→K a.block
theorem Jm.sm{S K:Nat→Prop}{w w':World}{v:Value}{l:af}(h:Jm w K v l)(hs:Sm S w w')(hS:∀ b,K b→¬S b):Jm w' K v l:=by
 obtain⟨A,c,rfl,h1,h2,h3⟩:=h;refine⟨A,c,rfl,?_,h2,h3⟩;by_cases h0:l=[]
 ·rw [h0];exact ar.nil _ _
 ·exact h1.sm hs (fun a e=>hS _ (h3 a e h0))
theorem Jm.no{K:Nat→Prop}{w w':World}{v:Value}{l:af}(h:Jm w K v l)(hs:Sm No w w'):Jm w' K v l:=h.sm hs (fun _ _ e=>e)
theorem Jm.of{w:World}{B:Nat}{v:Value}{l:af}(h:ay w B v l):Jm w (fun b=>v.ownBlock=some b) v l:=by
 rcases aR h with ⟨rfl,h1,h2⟩|⟨g,cap,rfl,hb, -,hlt,hc,hx, -⟩
 ·rw [List.eq_nil_of_length_eq_zero h1];exact⟨none,0,rfl,ar.nil _ _,⟨Nat.zero_le _,fun _=>rfl⟩,fun a e=>by cases e⟩
 ·exact⟨_,cap,rfl,fun j u hj=>⟨g,0,rfl,hlt,by have:=hx j u hj;rwa [Nat.zero_add]⟩,⟨hc,fun e=>by cases e⟩,fun a e _=>by injection e with e;rw [←e];exact hb⟩
theorem Jf{w:World}{K J:Nat→Prop}{v u:Value}{l p:af}(h:Jm w K v l)(k:Jm w J u p):Calls Tryz.prog 31 #[v,u] w fun e w'=>e=.returned (.bool (I7 p l))∧w=w':=by
 obtain⟨A,c,rfl,h1,h2, -⟩:=h;obtain⟨B,d,rfl,k1,k2, -⟩:=k;refine(Tryz.bytes_HasPrefix_all A B l.length c p.length d (Je l) (Je p) w (Jg l) (Jg p) h2.1 h1.bytesIn k1.bytesIn).mono ?_;rintro e w' ⟨rfl,rfl⟩;rw [I8,I8];exact⟨rfl,rfl⟩
def Ky(p l:af):af:=if I7 p l=true then l.drop p.length else l
theorem JC{w:World}{K J:Nat→Prop}{v u:Value}{l p:af}(h:Jm w K v l)(k:Jm w J u p):Calls Tryz.prog 47 #[v,u] w fun e w'=>∃ v',e=.returned (.tuple #[v',.bool (I7 p l)])∧Jm w K v' (Ky p l)∧w=w':=by
 obtain⟨A,c,rfl,h1,h2,h3⟩:=h;obtain⟨B,d,rfl,k1,k2, -⟩:=k;refine(Tryz.bytes_CutPrefix_all A B l.length c p.length d (Je l) (Je p) w (Jg l) (Jg p) h2.1 h1.bytesIn k1.bytesIn).mono ?_;rintro e w' ⟨rfl,rfl⟩;rw [I8,I8];refine⟨_,rfl,?_,rfl⟩;unfold Ky;by_cases hp:I7 p l=true
 ·rw [if_pos hp];have hle:=(Jc.1 hp).length_le
  cases p with
  |nil=>
   have e:Lib.trimPrefixV A l.length c (Je l) (Je [])=.slice A l.length c:=by unfold Lib.trimPrefixV Je;split<;>simp_all
   rw [e];exact⟨A,c,rfl,h1,h2,h3⟩
  |cons y r=>
   obtain⟨b,o,rfl,_⟩:=h1.bytesIn (by simp at hle;omega);have e:Lib.trimPrefixV (some ⟨b,o,none⟩) l.length c (Je l) (Je (y::r))=Lib.sliceFrom b o l.length c (y::r).length:=by
    show Lib.bytesTrimPrefix b o l.length c (Je l) (Je (y::r))=_;unfold Lib.bytesTrimPrefix;rw [I8,I8,if_pos (show Lib.hasPrefix l (y::r)=true from hp),Jg]
   rw [e];unfold Lib.sliceFrom;by_cases hc:c=(y::r).length
   ·rw [if_pos hc];have hl:l.drop (y::r).length=[]:=List.drop_eq_nil_of_le (by have:=h2.1;omega);rw [hl];exact⟨some ⟨b,o,none⟩,c-(y::r).length,by rw [show l.length-(y::r).length=0 by have:=h2.1;omega];rfl,ar.nil _ _,⟨Nat.zero_le _,fun e=>by cases e⟩,fun _ _ e=>absurd rfl e⟩
   ·rw [if_neg hc];refine⟨some ⟨b,o+(y::r).length,none⟩,c-(y::r).length,by rw [List.length_drop],?_,⟨by rw [List.length_drop];have:=h2.1;omega,fun e=>by cases e⟩,fun a e h0=>by
     injection e with e;rw [←e];show K b;exact h3 ⟨b,o,none⟩ rfl (fun e2=>h0 (by rw [e2,List.drop_nil]))⟩
    intro j u hj;have hj2:(bC l)[(y::r).length+j]?=some u:=by rw [←hj];simp only [bC,List.getElem?_map,List.getElem?_drop]
    obtain⟨b2,o2,e2,hb,hcell⟩:=h1 _ u hj2;injection e2 with e2;injection e2 with e3 e4;subst e3 e4;exact⟨b,o+(y::r).length,rfl,hb,by rw [Nat.add_assoc];exact hcell⟩
 ·rw [if_neg hp];have e:Lib.trimPrefixV A l.length c (Je l) (Je p)=.slice A l.length c:=by
   unfold Lib.trimPrefixV;split
   ·unfold Lib.bytesTrimPrefix;rw [I8,I8,if_neg (show ¬Lib.hasPrefix l _=true from hp)]
   ·rfl
  rw [e];exact⟨A,c,rfl,h1,h2,h3⟩
section
variable {P:Program} {ops:Array Oper} {rest:List Oper} {o:Oper} {a:Act} {w:World} {Q:Exit→Act→World→Prop}
theorem Ja (hgd:o.guard=none) (s x:Operand) (st t:TypeId)
 (ho:o.op=.call {callee:=.builtin .append,args:=#[s,x],argTypes:=#[st,st]}) (ht:P.underlying st=some (.slice t))
 (z:Value) (hi:(P.info? t).map (fun i=>(i.zero,i.size,i.bytes))=some (some z,1,1)) (hzs:z.cells.size=1)
 (B n:Nat) (v:Value) (xs:List Value) (hs:a.eval s=v) (hown:w.ownsRow B t 1 v n xs)
 (A:Option Addr) (m c:Nat) (news:List Value) (hx:a.eval x=.slice A m c) (h0:A=none→m=0∧c=0) (hl:news.length=m) (hrow:ar w A news) (h1:∀ u∈news,u.oneCell'=true) (hn:n+m≤1000000000) (hB:B≤w.heap.size)
 (h:∀ v' w',w'.ownsRow B t 1 v' (n+m) (xs++news)→Sm (fun b=>v.ownBlock=some b) w w'→wpList P ops Q rest (a.put o.dst v') w'):wpList P ops Q (o::rest) a w:=by
 obtain⟨i0,hi0,hz0,hz1,hz2⟩:=info_parts hi
 cases A with
 |some ad=>
  refine wpList_append_own_at _ hgd s x st ho B t i0 z 1 1 ht hi0 hz0 hz1 hz2 hzs (by decide) v n xs hs hown ad m c news hx (by omega) (hrow.news rfl) h1 (by unfold maxLen;omega) (by omega) hB ?_;intro v' w' h2 h3 h4 h5;exact h v' w' h2 ((Sm.refl _ w).grown h3 (fun k hk=>Or.inl hk))
 |none=>
  obtain⟨rfl,rfl⟩:=h0 rfl;have hnn:news=[]:=List.eq_nil_of_length_eq_zero hl;subst hnn;refine wpList_plain hgd fun K hK=> ?_;have hr:=run_append_owned_none (P:=P) (w:=w) B st o.type t i0 1 ht hi0 v n xs hown;unfold Oper.wp execOp;simp only [ho,resolve,invoke,builtin,Sem.run_bind,Sem.run_pure,Result.andThen_ok,List.map_toArray,List.map_cons,List.map_nil,hs,hx,hr];exact hK _ _ (h v w (by simpa using hown) (Sm.refl _ _))
end
def I5(chk:af→Bool):List af→af→af × af × Nat × Bool × Bool
 |[],out=>if chk out=true then ([],out,0,false,true) else ([],IH out,0,I7 I6 out,I7 I6 out&&chk (IH out))
 |a::l,out=>if chk out=true then ([],out,0,false,true) else
   if (I7 I6 out&&chk (IH out))=true then ([],IH out,0,true,true) else
   if I7 a (IH out)=true then (a++(I5 chk l ((IH out).drop a.length)).1,(I5 chk l ((IH out).drop a.length)).2.1,(I5 chk l ((IH out).drop a.length)).2.2.1+1,(I5 chk l ((IH out).drop a.length)).2.2.2)
   else ([],IH out,0,I7 I6 out,false)
theorem Kk{chk:af→Bool}{o:af}(h:chk o=true):∀ l,I5 chk l o=([],o,0,false,true)
 |[]=>by rw [I5,if_pos h]
 |a::l=>by rw [I5,if_pos h]
theorem Ka{chk:af→Bool}{o:af}(h:¬chk o=true)(hw:(I7 I6 o&&chk (IH o))=true):∀ l,I5 chk l o=([],IH o,0,true,true)
 |[]=>by
  rw [I5,if_neg h,hw];rw [Bool.and_eq_true] at hw;rw [hw.1]
 |a::l=>by rw [I5,if_neg h,if_pos hw]
theorem JG{chk:af→Bool}{o:af}(h:¬chk o=true)(hw:¬(I7 I6 o&&chk (IH o))=true):I5 chk [] o=([],IH o,0,I7 I6 o,false):=by
 rw [I5,if_neg h,Bool.eq_false_iff.2 hw]
theorem JY{chk:af→Bool}{o a:af}{l:List af}(h:¬chk o=true)(hw:¬(I7 I6 o&&chk (IH o))=true)(ha:¬I7 a (IH o)=true):I5 chk (a::l) o=([],IH o,0,I7 I6 o,false):=by
 rw [I5,if_neg h,if_neg hw,if_neg ha]
theorem JS{chk:af→Bool}{o a:af}{l:List af}(h:¬chk o=true)(hw:¬(I7 I6 o&&chk (IH o))=true)(ha:I7 a (IH o)=true):I5 chk (a::l) o=(a++(I5 chk l ((IH o).drop a.length)).1,(I5 chk l ((IH o).drop a.length)).2.1,(I5 chk l ((IH o).drop a.length)).2.2.1+1,(I5 chk l ((IH o).drop a.length)).2.2.2):=by
 rw [I5,if_neg h,if_neg hw,if_pos ha]
def Kn(w:World)(F:FuncId)(caps:Array Value)(S K:Nat→Prop)(I:World→Bool→Prop)(chk:af→Bool):Prop:=
 ∀ (W:World) (k:Nat) (v:Value) (l:af) (p:Bool),Sm S w W→Jm W K v l→(∃ b,I W b)→
   Calls Tryz.prog F (#[.int .i64 (k:Int),v,.bool p]++caps) W fun e w'=>e=.returned (.bool (chk l))∧Sm S W w'∧I w' (chk l)
theorem JQ(args:Array Value)(W:World):Sem.run Tryz.prog (callFunc 30 args) W=.ok (.enter 30 args) W:=by
 simp [callFunc,go_sem,Tryz.func30];rw [if_neg (by decide+kernel),if_neg (fun h=>absurd (congrArg Option.isNone h) (by decide+kernel))]
structure KJ (w:World) (S K:Nat→Prop) (I:World→Bool→Prop) (chk:af→Bool) (L:List af) (out:af) (ov wv iv:Value) (wr:World) (k:Nat) (o wh:af):Prop where
 hk:k≤L.length
 ie:iv=.int .i64 (k:Int)
 ho:Jm wr K ov o
 hw:ay wr w.heap.size wv wh
 sp:I5 chk L out=(wh++(I5 chk (L.drop k) o).1,(I5 chk (L.drop k) o).2.1,k+(I5 chk (L.drop k) o).2.2.1,(I5 chk (L.drop k) o).2.2.2)
 sm:Sm S w wr
 le:wh.length+o.length≤out.length
 ib:∃ b,I wr b
theorem KJ.fin{w wr:World}{S K:Nat→Prop}{I:World→Bool→Prop}{chk:af→Bool}{L:List af}{out o wh l2:af}{ov wv iv:Value}{k:Nat}{p b:Bool}(h:KJ w S K I chk L out ov wv iv wr k o wh)(e:I5 chk (L.drop k) o=([],l2,0,p,b)):I5 chk L out=(wh,l2,k,p,b):=by
 rw [h.sp,e,List.append_nil,Nat.add_zero]
theorem Jy (w:World) (B g:Nat) (T:List bE) (t:af) (qs:List gJ) (HK:FX T t qs) (F:FuncId) (caps:Array Value) (S K:Nat→Prop) (I:World→Bool→Prop) (chk:af→Bool) (hF:∀ (args:Array Value) (W:World),Sem.run Tryz.prog (callFunc F args) W=.ok (.enter F args) W) (hc:Kn w F caps S K I chk)
 (hS:∀ b,S b→b < w.heap.size) (hK:∀ b,K b→¬S b) (hKw:∀ b,K b→b < w.heap.size) (hT:∀ W,Sm S w W→G1 W∧rd W B g T qs (om (ap t).2.2)) (hI:∀ (W W':World) (b:Bool) (Z:Nat→Prop),I W b→Sm Z W W'→(∀ x,Z x→¬S x)→I W' b) (hi0:∃ b,I w b)
 (v:Value) (out:af) (hv:Jm w K v out) (hol:out.length≤500000000):
 Calls Tryz.prog 29 #[.pointer (some ⟨g,0,none⟩),v,.func (.func F) #[] caps] w fun e w'=>∃ vw vl R,I5 chk (tu T false qs (om (ap t).2.2)) out=R∧e=.returned (.tuple #[vw,vl,.int .i64 (R.2.2.1:Int),.bool R.2.2.2.1])∧ay w' w.heap.size vw R.1∧Jm w' K vl R.2.1∧I w' R.2.2.2.2∧Sm S w w':=by
 obtain⟨L,hL⟩:=Iu (tu T false qs (om (ap t).2.2));rw [hL];have hLl:=CJ T false qs (om (ap t).2.2);rw [hL] at hLl;have HLen:=ns (fun (W:World) (h:Sm S w W)=>BL W B g T qs (om (ap t).2.2) (hT W h).2 HK.ql);rw [←hLl] at HLen;have HAn:=ns (fun (W:World) (h:Sm S w W) (k:Nat) (a:af) (hk:L[k]?=some a)=>E9 W (hT W h).1 B g T t qs (hT W h).2 HK false k a (by rw [hL];exact hk));have HTe:=ns hc;have HX:=ns (BT hS (BT hK hI));have HKw:=ns hKw;have HIo:=ns hi0;have hLb:L.length≤1000001:=by have:=HK.ql;rw [hLl];split<;>omega
 have HV:=ns hv;obtain⟨A0,c0,rfl, -⟩:=hv;obtain⟨NL,hNL⟩:∃ n,L.length=n:=⟨_,rfl⟩;rw [hNL] at hLb HLen;have HNL:=ns hNL;clear hL hLl hc hS hK hKw hI hT hNL hi0;go_in;go_wp2_with fail
 go_loopw [1,6,7,8,9,10,11,12,13,14] (fun ov wv _ iv _ _ _ _ _ _ wr=>∃ k o wh,KJ w S K I chk L out ov wv iv wr k o wh) (fun _ _ _ iv _ _ _ _ _ _ _=>NL-(intOf iv).toNat)
 case atStart=>
  exact⟨0,out,[],Nat.zero_le _,rfl,HV.out,ay.nil _ _,by rw [List.nil_append,List.drop_zero,Nat.zero_add],Sm.refl _ _,by rw [List.length_nil,Nat.zero_add];exact Nat.le_refl _,HIo.out⟩
 case round=>
  obtain⟨k,o,wh,hR⟩:=hrel;have hie:=hR.ie;subst hie;have hk:=hR.hk;rw [HNL.out] at hk;have HR:=ns hR;have HT1:=ns (HTe.out wr k u1 o false hR.sm hR.ho hR.ib);clear hR;go_wp2_with fail;refine HT1.out.mono ?_;rintro e w1 ⟨rfl,hs1,hi1⟩;have hs01:=HR.out.sm.tt hs1;have ho1:=HR.out.ho.sm hs1 HX.out.2.1;have hw1:=aa HR.out.hw hs1 (fun b e e2=>by have:=(World.ownsRow.lt HR.out.hw b e).1;have:=HX.out.1 b e2;omega);obtain⟨x,hx⟩:=Iu (chk o);rw [hx] at hi1 ⊢;have H1:=ns (BT hs01 (BT ho1 (BT hw1 (BT hi1 hx))));clear hs1 hi1 hs01 ho1 hw1 hx HT1
  cases x with
  |true=>
   have HF:=ns (show I5 chk L out=(wh,o,k,false,true) from HR.out.fin (Kk H1.out.2.2.2.2 _));go_wp2_with fail;exact bodyPost_ret (v:=.tuple #[u6,u1,.int .i64 (k:Int),.bool false]) (by simp [results,Tryz.results29,go_sem]) rfl ⟨u6,u1,_,HF.out,rfl,H1.out.2.2.1,H1.out.2.1,H1.out.2.2.2.1,H1.out.1⟩
  |false=>
   have HN1:=ns (show ¬chk o=true from by rw [H1.out.2.2.2.2];decide);have HCo:=ns (Ji w1);go_wp2_with fail;refine HCo.out.mono ?_;rintro e w2 ⟨vc,rfl,hvc,hs2⟩;have hlc:Jm w2 (fun _=>True) vc I6:=by
    obtain⟨A,c,rfl,h1,h2,h3⟩:=hvc.row;exact⟨A,c,rfl,h1,⟨h2,h3⟩,fun _ _ _=>trivial⟩
   have ho2:=H1.out.2.1.no hs2;have HCp:=ns (JC ho2 hlc);have H2:=ns (BT hs2 (H1.out.1.trans hs2 (fun _ _ e=>e.elim)));clear hvc hs2 hlc ho2;go_wp2_with fail;refine HCp.out.mono ?_;rintro e w3 ⟨v3,rfl,hl3,rfl⟩;have hl3:Jm w2 K v3 (IH o):=hl3;have hw2:=aa (w':=w2) (S:=No) H1.out.2.2.1 H2.out.1 (fun _ _ e=>e);obtain⟨pw,hpw⟩:∃ x,I7 I6 o=x:=⟨_,rfl⟩;rw [hpw];have HP:=ns hpw;have HW2:=ns (BT hl3 (BT hw2 (HX.out.2.2 _ _ _ _ H1.out.2.2.2.1 H2.out.1 (fun _ e=>e.elim))));clear hl3 hw2 hpw HCp HCo;go_upto_if 30 with fail
   go_cut [1,6,8,9] from 31 to 40 (fun ov wv iv pv wx=>pv=.bool pw∧iv=.int .i64 (k:Int)∧Jm wx K ov (IH o)∧ay wx w.heap.size wv wh∧I wx false∧Sm S w wx∧¬(I7 I6 o&&chk (IH o))=true)
   case first=>
    cases pw with
    |false=>
     go_wp2_with fail;go_meet;have hb:IH o=o:=by unfold IH;rw [HP.out];rfl
     exact⟨rfl,rfl,by rw [hb];exact H1.out.2.1.no H2.out.1,HW2.out.2.1,HW2.out.2.2,H2.out.2,by rw [HP.out,Bool.false_and];decide⟩
    |true=>
     have HT2:=ns (HTe.out w2 k v3 (IH o) true H2.out.2 HW2.out.1 ⟨_,HW2.out.2.2⟩);go_wp2_with fail;refine HT2.out.mono ?_;rintro e w4 ⟨rfl,hs4,hi4⟩;have hs04:=H2.out.2.tt hs4;have ho4:=HW2.out.1.sm hs4 HX.out.2.1;have hw4:=aa HW2.out.2.1 hs4 (fun b e e2=>by have:=(World.ownsRow.lt HW2.out.2.1 b e).1;have:=HX.out.1 b e2;omega);obtain⟨y,hy⟩:∃ x,chk (IH o)=x:=⟨_,rfl⟩;rw [hy] at hi4 ⊢;have H4:=ns (BT hs04 (BT ho4 (BT hw4 (BT hi4 hy))));clear hs4 hi4 hs04 ho4 hw4 hy HT2
     cases y with
     |true=>
      have HF:=ns (show I5 chk L out=(wh,IH o,k,true,true) from HR.out.fin (Ka HN1.out (by rw [HP.out,H4.out.2.2.2.2];rfl) _));go_wp2_with fail;exact bodyPost_ret (v:=.tuple #[u6,v3,.int .i64 (k:Int),.bool true]) (by simp [results,Tryz.results29,go_sem]) rfl ⟨u6,v3,_,HF.out,rfl,H4.out.2.2.1,H4.out.2.1,H4.out.2.2.2.1,H4.out.1⟩
     |false=>
      go_wp2_with fail;go_meet;exact⟨rfl,rfl,H4.out.2.1,H4.out.2.2.1,H4.out.2.2.2.1,H4.out.1,by rw [H4.out.2.2.2.2,Bool.and_false];decide⟩
   case rest=>
    obtain⟨rfl,rfl,hl5,hw5,hi5,hs5,hn5⟩:=hcut;have H5:=ns (BT hl5 (BT hw5 (BT hi5 (BT hs5 hn5))));have HL5:=ns (HLen.out wc hs5);clear hl5 hw5 hi5 hs5 hn5 hl3;by_cases hlt:k < NL
    ·have hne:((k:Int)==(NL:Int))=false:=by rw [beq_eq_false_iff_ne];omega
     obtain⟨a,ha⟩:∃ a,L[k]?=some a:=⟨_,List.getElem?_eq_getElem (by rw [HNL.out];exact hlt)⟩;have hdr:L.drop k=a::L.drop (k+1):=by
      rw [List.drop_eq_getElem_cons (by rw [HNL.out];exact hlt)];congr 1;have:=List.getElem?_eq_getElem (l:=L) (i:=k) (by rw [HNL.out];exact hlt);rw [ha] at this;injection this with this;exact this.symm
     have HA:=ns (HAn.out wc H5.out.2.2.2.1 k a ha);have HD:=ns hdr;clear ha hdr;go_wp2_with fail;refine HL5.out.mono ?_;rintro e w6 ⟨rfl,rfl⟩;go_wp2_with fail;refine HA.out.mono ?_;rintro e w6 ⟨va,rfl,hva,hs6⟩;have hla:=Jm.of hva;have hl6:=H5.out.1.no hs6;have hw6:=aa (w':=w6) (S:=No) H5.out.2.1 hs6 (fun _ _ e=>e);have HC2:=ns (JC hl6 hla);obtain⟨Aa,ca,rfl,hra,hca, -⟩:=hla;have hna:Aa=none→a.length=0∧ca=0:=fun e=>⟨by have:=hca.2 e;have:=hca.1;omega,hca.2 e⟩;have H6:=ns (BT hl6 (BT hw6 (BT (HX.out.2.2 _ _ _ _ H5.out.2.2.1 hs6 (fun _ e=>e.elim)) (BT (H5.out.2.2.2.1.trans hs6 (fun _ _ e=>e.elim)) (BT hra hna)))));clear hva hl6 hw6 hra hna hs6 hca;go_wp2_with fail;refine HC2.out.mono ?_;rintro e w7 ⟨v7,rfl,hl7,rfl⟩;obtain⟨pa,hpa⟩:∃ x,I7 a (IH o)=x:=⟨_,rfl⟩;rw [hpa];have HPa:=ns hpa;clear hpa HC2
     cases pa with
     |false=>
      have HF:=ns (show I5 chk L out=(wh,IH o,k,I7 I6 o,false) from HR.out.fin (by rw [HD.out,JY HN1.out H5.out.2.2.2.2 (by rw [HPa.out];decide)]));rw [HP.out] at HF;go_wp2_with fail;exact bodyPost_ret (v:=.tuple #[u6,u1,.int .i64 (k:Int),.bool pw]) (by simp [results,Tryz.results29,go_sem]) rfl ⟨u6,u1,_,HF.out,rfl,H6.out.2.1,H6.out.1,H6.out.2.2.1,H6.out.2.2.2.1⟩
     |true=>
      have hb7:Jm w6 K v7 ((IH o).drop a.length):=by
       unfold Ky at hl7;rw [if_pos HPa.out] at hl7;exact hl7
      have hlen:wh.length+a.length+((IH o).drop a.length).length≤out.length:=by
       have h1:=HR.out.le;have h2:=(Jc.1 HPa.out).length_le;rw [List.length_drop];have h3:(IH o).length≤o.length:=by unfold IH;split<;>(try rw [List.length_drop])<;>omega
       omega
      have H7:=ns (BT hb7 hlen);have hB6:w.heap.size≤w6.heap.size:=H6.out.2.2.2.1.size;clear hl7 hb7 hlen;go_wp2_with (refine Ja rfl _ _ 22 5 rfl Tryz.underlying22 _ eE rfl w.heap.size wh.length u6 (wh.map aM) rfl H6.out.2.1 Aa a.length ca (bC a) rfl H6.out.2.2.2.2.2 (AK a) H6.out.2.2.2.2.1 (zD a) (by have:=H7.out.2;omega) hB6 ?_;intro v8 w8 hown8 hs8;refine RowKit.Hid.out ?_);refine ns ?_;have hS8:Sm S w w8:=H6.out.2.2.2.1.trans (hs8.mono (T:=fun b=>w.heap.size≤b) (fun b _ e=>(World.ownsRow.lt H6.out.2.1 b e).1)) (fun b hb e=>absurd hb (by omega));have hl8:=H7.out.1.sm hs8 (fun b e e2=>by have:=HKw.out b e;have:=(World.ownsRow.lt H6.out.2.1 b e2).1;omega);have hi8:=HX.out.2.2 _ _ _ _ H6.out.2.2.1 hs8 (fun b e e2=>by have:=HX.out.1 b e2;have:=(World.ownsRow.lt H6.out.2.1 b e).1;omega);have H8:=ns (BT hS8 (BT hl8 (BT hown8 hi8)));clear hS8 hl8 hown8 hs8 hi8;go_wp2_with fail;refine⟨⟨k+1,(IH o).drop a.length,wh++a,?_⟩,by simp [intOf];omega⟩;rw [show ((k:Int)+1)=((k+1:Nat):Int) from by omega];refine⟨by rw [HNL.out];exact hlt,rfl,H8.out.2.1,?_,?_,H8.out.1,by rw [List.length_append];exact H7.out.2,⟨_,H8.out.2.2.2⟩⟩
      ·show w8.ownsRow w.heap.size 5 1 v8 (wh++a).length ((wh++a).map aM);rw [List.length_append,List.map_append];exact H8.out.2.2.1
      ·rw [HR.out.sp,HD.out,JS HN1.out H5.out.2.2.2.2 HPa.out,List.append_assoc];simp only [Prod.mk.injEq,true_and,and_true];omega
    ·obtain rfl:k=NL:=by omega
     have HF:=ns (show I5 chk L out=(wh,IH o,k,I7 I6 o,false) from HR.out.fin (by rw [List.drop_of_length_le (by rw [HNL.out];omega),JG HN1.out H5.out.2.2.2.2]));rw [HP.out] at HF;go_wp2_with fail;refine HL5.out.mono ?_;rintro e w6 ⟨rfl,rfl⟩;go_wp2_with fail;exact bodyPost_ret (v:=.tuple #[u6,u1,.int .i64 (k:Int),.bool pw]) (by simp [results,Tryz.results29,go_sem]) rfl ⟨u6,u1,_,HF.out,rfl,H5.out.2.1,H5.out.1,H5.out.2.2.1,H5.out.2.2.2.1⟩
def Jn(a?:Option af)(l:af):Bool:=match a? with
 |some a=>I7 l a
 |none=>false
def Jb(a?:Option af)(l:af)(p:Bool):af × Bool:=if Jn a? l=true then (l,true) else if l=[]∨(p=false∧I7 l I6=true) then ([],true) else (l,false)
theorem J8{o:af}(h:I7 I6 o=false):IH o=o:=by
 unfold IH;rw [h];rfl
theorem Jr(a?:Option af)(o:af):Jb a? (IH o) (I7 I6 o)=if Jn a? (IH o)=true then (IH o,true) else if IH o=[]∨(I7 I6 o=false∧I7 o I6=true) then ([],true) else (IH o,false):=by
 unfold Jb;by_cases hp:I7 I6 o=false
 ·rw [J8 hp]
 ·simp [hp]
theorem Jq:∀ (L:List af) (out:af),I9 L out=((I5 (fun _=>false) L out).1++(Jb L[(I5 (fun _=>false) L out).2.2.1]? (I5 (fun _=>false) L out).2.1 (I5 (fun _=>false) L out).2.2.2.1).1,(Jb L[(I5 (fun _=>false) L out).2.2.1]? (I5 (fun _=>false) L out).2.1 (I5 (fun _=>false) L out).2.2.2.1).2)
 |[],out=>by
  rw [JG (by decide) (by simp)];rw [show ([]:List af)[(([]:af),IH out,0,I7 I6 out,false).2.2.1]?=none from rfl,Jr,I9];dsimp only;rw [if_neg (show ¬Jn none (IH out)=true from fun e=>by cases e),List.nil_append]
 |a::l,out=>by
  by_cases ha:I7 a (IH out)=true
  ·rw [JS (by decide) (by simp) ha,I9,if_pos ha,Jq l];dsimp only;rw [List.getElem?_cons_succ,List.append_assoc]
  ·rw [JY (by decide) (by simp) ha,I9,if_neg ha];dsimp only;rw [List.getElem?_cons_zero,Jr,List.nil_append];unfold Jn;dsimp only
theorem JH(chk:af→Bool):∀ (L:List af) (out:af),(I5 chk L out).2.2.1≤L.length
 |[],out=>by rw [I5];split<;>exact Nat.le_refl _
 |a::l,out=>by
  rw [I5];split
  ·exact Nat.zero_le _
  split
  ·exact Nat.zero_le _
  split
  ·have:=JH chk l ((IH out).drop a.length);show _+1≤_+1;omega
  ·exact Nat.zero_le _
theorem JE(o:af):(IH o).length≤o.length:=by unfold IH;split<;>(try rw [List.length_drop])<;>omega
theorem J0(chk:af→Bool):∀ (L:List af) (out:af),(I5 chk L out).1.length+(I5 chk L out).2.1.length≤out.length
 |[],out=>by
  have:=JE out;rw [I5];split<;>simp<;>omega
 |a::l,out=>by
  have hb:=JE out;rw [I5];split
  ·simp
  split
  ·simp;omega
  split
  ·rename_i ha
   have h1:=J0 chk l ((IH out).drop a.length);have h2:=(Jc.1 ha).length_le;rw [List.length_drop] at h1;simp only [List.length_append];omega
  ·simp;omega
theorem Kj{chk:af→Bool}{L:List af}{out wh l:af}{i:Nat}{p b:Bool}(h:I5 chk L out=(wh,l,i,p,b)):wh.length+l.length≤out.length:=by
 have:=J0 chk L out;rw [h] at this;exact this
theorem Ki(k:Int)(v:Value)(p:Bool)(w:World):Calls Tryz.prog 30 #[.int .i64 k,v,.bool p] w fun e w'=>e=.returned (.bool false)∧w=w':=by
 go_in;go_wp2_with fail;go_ret;exact⟨rfl,rfl⟩
theorem J3(w:World)(K:Nat→Prop):Kn w 30 #[] No K (fun _ _=>True) (fun _=>false):=fun W k v _ p _ _ _=>
 (Ki k v p W).mono fun _ _ ⟨h1,h2⟩=>⟨h1,h2 ▸ Sm.refl _ _,trivial⟩
def Kl(w:World)(T:List bE)(t out:af)(e:Ending)(w':World):Prop:=
 ∃ v,e=.returned (.tuple #[v,.bool (I9 (iW T false t) out).2])∧ay w' w.heap.size v (I9 (iW T false t) out).1∧Sm No w w'
def Jt(l:af)(p:Bool):Bool:=decide (l=[]∨(p=false∧I7 l I6=true))
theorem JM{a?:Option af}{l:af}{p:Bool}(h:Jn a? l=true):Jb a? l p=(l,true):=by unfold Jb;rw [if_pos h]
theorem JD{a?:Option af}{l:af}{p:Bool}(h:Jn a? l=false)(hr:Jt l p=true):Jb a? l p=([],true):=by
 unfold Jb;rw [if_neg (by rw [h];decide),if_pos (of_decide_eq_true hr)]
theorem JT{a?:Option af}{l:af}{p:Bool}(h:Jn a? l=false)(hr:Jt l p=false):Jb a? l p=(l,false):=by
 unfold Jb;rw [if_neg (by rw [h];decide),if_neg (of_decide_eq_false hr)]
theorem J9 (w:World) (hg:G1 w) (C:oa) (hok:C.ok=true) (T:List bE) (hCl:C.tl=T.length) (hT:ar w C.ta (cD T)) (h0:C.ta=none→T.length=0∧C.tc=0) (hTl:T.length≤1000000) (hsm:lZ T) (hS:dJ T=0) (hpl:∀ x∈T,Lib.hasPrefix (ab x.type) jz=false)
 (A:Option Addr) (cp:Nat) (t:af) (hR:ar w A (t.map aM)) (hn:A=none→t.length=0∧cp=0) (hcp:t.length≤cp) (hl:t.length≤100000) (hcp2:cp≤140737488351232)
 (K:Nat→Prop) (v:Value) (out:af) (hv:Jm w K v out) (hKw:∀ b,K b→b < w.heap.size) (hol:out.length≤500000000):
 Calls Tryz.prog 20 #[.agg C.vals,.slice A t.length cp,v] w (Kl w T t out):=by
 have HTo:=ns (fun (W:World) (h:Sm No w W)=>Bx W (hg.no h) C hok T hCl (hT.no h) h0 hTl hsm hS A cp t (hR.no h) hn hcp hl hcp2);have HG:=ns hg;have HK:=ns (BT hS (BT hsm (BT hpl hl)));have HL:=ns (BT hCl hTl);have HV:=ns (BT hv (BT hKw hol));obtain⟨Av,cv,rfl, -⟩:=hv;clear hg hok hT h0 hsm hS hpl hR hn hcp hcp2 hKw hol;obtain⟨nt,hnt⟩:∃ n,t.length=n:=⟨_,rfl⟩;rw [hnt] at HTo hl ⊢;clear hnt;unfold oa.vals;rw [hCl];go_in;go_wp2_with (refine bF rfl 25 _ rfl Tryz.underlying25 16 js _ rfl _ (Bk.new _ _ _) rfl ?_);have HT1:=ns (HTo.out (w.alloc (.cells C.vals 25)) ((Sm.refl No w).alloc _));unfold oa.vals at HT1;rw [hCl] at HT1;clear hCl;refine HT1.out.mono ?_;rintro e w1 ⟨g,qs,rfl,hTel,hqx,hs1⟩;have hK:FX T t qs:=⟨HK.out.1,HK.out.2.1,HK.out.2.2.1,hqx,by have h:=oq t;rw [←hqx,List.length_map] at h;have:=HK.out.2.2.2;omega⟩;have hw1:Sm No w w1:=((Sm.refl No w).alloc (.cells C.vals 25)).tt (by unfold oa.vals;rw [HL.out.1];exact hs1);have hL:=Gb T false hqx;obtain⟨L,hLe⟩:=Iu (iW T false t);have HAl:=ns (Jy w1 _ g T t qs hK 30 #[] No K (fun _ _=>True) (fun _=>false) JQ (J3 w1 K) (fun _ e=>e.elim) (fun _ _ e=>e) (fun b e=>Nat.lt_of_lt_of_le (HV.out.2.1 b e) hw1.size) (fun W hW=>⟨HG.out.no (hw1.tt hW),hTel.no hW⟩) (fun _ _ _ _ _ _ _=>trivial) ⟨true,trivial⟩ _ out (HV.out.1.no hw1) HV.out.2.2);have HLen:=ns (fun (W:World) (h:Sm No w1 W)=>BL W _ g T qs (om (ap t).2.2) (hTel.no h) hK.ql);rw [←CJ T false,hL,hLe] at HLen;have HAn:=ns (fun (W:World) (h:Sm No w1 W) (k:Nat) (a:af) (hk:L[k]?=some a)=>E9 W (HG.out.no (hw1.tt h)) _ g T t qs (hTel.no h) hK false k a (by rw [hL,hLe];exact hk));rw [hL,hLe] at HAl;have HW1:=ns (BT hw1 hLe);clear hTel hK hqx hs1 hw1 hL hLe HT1 HTo;go_wp2_with fail;refine HAl.out.mono ?_;rintro e w2 ⟨vw,vl,⟨wh,l,i,p,b⟩,hal,rfl,hw2,hl2, -,hs2⟩;dsimp only at hw2 hl2 ⊢;have hil:i≤L.length:=by have:=JH (fun _=>false) L out;rw [hal] at this;exact this
 have hpw:=Jq L out;rw [hal] at hpw;dsimp only at hpw;have hll:wh.length+l.length≤out.length:=Kj hal;have hll0:=hl2;obtain⟨Al,cl,rfl,hrl,hcl, -⟩:=hl2;have H2:=ns (BT hw2 (BT hll0 (BT hrl (BT hcl (BT hs2 (BT hpw hll))))));have hcl1:=hcl.1;obtain⟨NL,hNL⟩:∃ n,L.length=n:=⟨_,rfl⟩;obtain⟨nl,hnl⟩:∃ n,l.length=n:=⟨_,rfl⟩;have HNl:=ns (BT hNL hnl);rw [hNL] at hil HLen;rw [hnl] at hcl1 ⊢;clear hw2 hll0 hrl hcl hs2 hpw hll hal hNL hnl HAl;go_upto_region 3 with fail
 go_cut [24] from 25 to 35 (fun cv wx=>cv=.bool (Jn L[i]? l)∧Sm No w2 wx)
 case first=>
  have HL2:=ns (HLen.out w2 H2.out.2.2.2.2.1);by_cases hlt:i < NL
  ·have j1:(i:Int) < (NL:Int):=by omega
   have j2:decide ((i:Int) < (NL:Int))=true:=decide_eq_true j1;obtain⟨a,ha⟩:∃ a,L[i]?=some a:=⟨_,List.getElem?_eq_getElem (by rw [HNl.out.1];exact hlt)⟩;have HA:=ns (HAn.out w2 H2.out.2.2.2.2.1 i a ha);have HAe:=ns ha;clear ha;go_wp2_with fail;refine HL2.out.mono ?_;rintro e w3 ⟨rfl,rfl⟩;go_wp2_with fail;refine HA.out.mono ?_;rintro e w3 ⟨va,rfl,hva,hs3⟩;have HHp:=ns (Jf (Jm.of hva) (H2.out.2.1.no hs3));rw [HNl.out.2] at HHp;have HS3:=ns hs3;clear hva hs3;go_wp2_with fail;refine HHp.out.mono ?_;rintro e w4 ⟨rfl,rfl⟩;go_wp2_with fail;go_meet;exact⟨by rw [HAe.out];rfl,HS3.out⟩
  ·have j1:¬(i:Int) < (NL:Int):=by omega
   have j2:decide ((i:Int) < (NL:Int))=false:=decide_eq_false j1;go_wp2_with fail;refine HL2.out.mono ?_;rintro e w3 ⟨rfl,rfl⟩;go_wp2_with fail;go_meet;exact⟨by rw [List.getElem?_eq_none (by rw [HNl.out.1];omega)];rfl,Sm.refl _ _⟩
 case rest=>
  obtain⟨rfl,hsc⟩:=hcut;obtain⟨x,hx⟩:=Iu (Jn L[i]? l);rw [hx];have HXe:=ns hx;have HSc:=ns (BT hsc (aa (w':=wc) (S:=No) H2.out.1 hsc (fun _ _ e=>e)));have HFin:=ns (show ∀ (W:World) (v:Value) (r:af × Bool),Sm No w1 W→I9 L out=(wh++r.1,r.2)→ay W w1.heap.size v (wh++r.1)→Kl w T t out (.returned (.tuple #[v,.bool r.2])) W from fun W v r hW hr hv=>by
   refine⟨v,?_,?_,HW1.out.1.tt hW⟩
   ·rw [HW1.out.2,hr]
   ·rw [HW1.out.2,hr];exact gT hv HW1.out.1.size)
  have HSc:=ns (BT (H2.out.2.2.2.2.1.tt hsc) (BT HSc.out.2 (BT (show Al=none→nl=0∧cl=0 from fun e=>⟨by have h1:=H2.out.2.2.2.1.2 e;have h2:=H2.out.2.2.2.1.1;have:=HNl.out.2;omega,H2.out.2.2.2.1.2 e⟩) (H2.out.2.2.1.no hsc))));have HLk:=ns (H2.out.2.1.no hsc);clear hx hsc
  cases x with
  |true=>
   have hB:w1.heap.size≤wc.heap.size:=HSc.out.1.size;go_wp2_with (refine Ja rfl _ _ 22 5 rfl Tryz.underlying22 _ eE rfl w1.heap.size wh.length vw (wh.map aM) rfl HSc.out.2.1 Al nl cl (bC l) rfl HSc.out.2.2.1 (by rw [AK];exact HNl.out.2) HSc.out.2.2.2 (zD l) (by have:=H2.out.2.2.2.2.2.2;have:=HNl.out.2;have:=HV.out.2.2;omega) hB ?_;intro v8 w8 hown8 hs8;refine RowKit.Hid.out ?_);refine ns ?_;have hs18:Sm No w1 w8:=HSc.out.1.fresh hs8 (fun b e=>(World.ownsRow.lt HSc.out.2.1 b e).1);have hO8:ay w8 w1.heap.size v8 (wh++l):=by
    show w8.ownsRow w1.heap.size 5 1 v8 (wh++l).length ((wh++l).map aM);rw [List.length_append,List.map_append,HNl.out.2];exact hown8
   have H8:=ns (HFin.out w8 v8 (l,true) hs18 (by rw [H2.out.2.2.2.2.2.1,JM HXe.out]) hO8);clear hs18 hO8 hown8 hs8 hB;go_wp2_with fail;go_ret2;exact H8.out
  |false=>
   go_upto_region 5 with fail
   go_cut [39] from 40 to 51 (fun cv wx=>cv=.bool (Jt l p)∧Sm No wc wx)
   case first=>
    by_cases hz:nl=0
    ·have hz1:((nl:Int)==0)=true:=by rw [beq_iff_eq];omega
     have hl0:l=[]:=List.eq_nil_of_length_eq_zero (HNl.out.2.trans hz);go_wp2_with fail;go_meet;exact⟨by unfold Jt;rw [decide_eq_true (Or.inl hl0)],Sm.refl _ _⟩
    ·have hz1:((nl:Int)==0)=false:=by rw [beq_eq_false_iff_ne];omega
     have HLn:=ns (show ¬l=[] from fun e=>hz (by rw [←HNl.out.2,e];rfl))
     cases p with
     |true=>
      go_wp2_with fail;go_meet;exact⟨by unfold Jt;rw [decide_eq_false (by rintro(e|⟨e,_⟩);exact HLn.out e;cases e)],Sm.refl _ _⟩
     |false=>
      have HCo:=ns (Ji wc);go_wp2_with fail;refine HCo.out.mono ?_;rintro e w4 ⟨vc,rfl,hvc,hs4⟩;have hlc:Jm w4 (fun _=>True) vc I6:=by
       obtain⟨A,c,rfl,h1,h2,h3⟩:=hvc.row;exact⟨A,c,rfl,h1,⟨h2,h3⟩,fun _ _ _=>trivial⟩
      have HHp:=ns (Jf hlc (HLk.out.no hs4));rw [HNl.out.2] at HHp;have HS4:=ns hs4;clear hvc hs4 hlc;go_wp2_with fail;refine HHp.out.mono ?_;rintro e w5 ⟨rfl,rfl⟩;obtain⟨y,hy⟩:=Iu (I7 l I6);rw [hy];have HY:=ns (show Jt l false=y from by
       unfold Jt;rw [hy]
       cases y with
       |true=>exact decide_eq_true (Or.inr ⟨rfl,rfl⟩)
       |false=>exact decide_eq_false (by rintro(e|⟨_,e⟩);exact HLn.out e;cases e))
      clear hy;go_wp2_with fail;go_meet;exact⟨by rw [HY.out],HS4.out⟩
   case rest=>
    obtain⟨rfl,hsd⟩:=hcut;obtain⟨y,hy⟩:=Iu (Jt l p);rw [hy];have HYe:=ns hy;have HSc:=ns (BT (HSc.out.1.tt hsd) (BT (aa (S:=No) HSc.out.2.1 hsd (fun _ _ e=>e)) (BT HSc.out.2.2.1 (HSc.out.2.2.2.no hsd))));clear hy hsd
    cases y with
    |true=>
     have H8:=ns (HFin.out wc vw ([],true) HSc.out.1 (by rw [H2.out.2.2.2.2.2.1,JD HXe.out HYe.out]) (by rw [List.append_nil];exact HSc.out.2.1));go_wp2_with fail;go_ret2;exact H8.out
    |false=>
     have hB:w1.heap.size≤wc.heap.size:=HSc.out.1.size;go_wp2_with (refine Ja rfl _ _ 22 5 rfl Tryz.underlying22 _ eE rfl w1.heap.size wh.length vw (wh.map aM) rfl HSc.out.2.1 Al nl cl (bC l) rfl HSc.out.2.2.1 (by rw [AK];exact HNl.out.2) HSc.out.2.2.2 (zD l) (by have:=H2.out.2.2.2.2.2.2;have:=HNl.out.2;have:=HV.out.2.2;omega) hB ?_;intro v8 w8 hown8 hs8;refine RowKit.Hid.out ?_);refine ns ?_;have hs18:Sm No w1 w8:=HSc.out.1.fresh hs8 (fun b e=>(World.ownsRow.lt HSc.out.2.1 b e).1);have hO8:ay w8 w1.heap.size v8 (wh++l):=by
      show w8.ownsRow w1.heap.size 5 1 v8 (wh++l).length ((wh++l).map aM);rw [List.length_append,List.map_append,HNl.out.2];exact hown8
     have H8:=ns (HFin.out w8 v8 (l,false) hs18 (by rw [H2.out.2.2.2.2.2.1,JT HXe.out HYe.out]) hO8);clear hs18 hO8 hown8 hs8 hB;go_wp2_with fail;go_ret2;exact H8.out
theorem Kg(args:Array Value)(W:World):Sem.run Tryz.prog (callFunc 33 args) W=.ok (.enter 33 args) W:=by
 simp [callFunc,go_sem,Tryz.func33];rw [if_neg (by decide+kernel),if_neg (fun h=>absurd (congrArg Option.isNone h) (by decide+kernel))]
def Ju(l:af):Bool:=I7 l (uN 408)||I7 l (uN 503)
theorem JK(cl:Option af)(l:af):Jv false cl l=Ju l:=by
 unfold Jv Ju;rw [Bool.false_and,Bool.or_false]
theorem J1(w:World)(bm:Nat)(hg:∀ W,Sm (fun b=>b=bm) w W→G1 W)(bq bt:Nat)(K:Nat→Prop)(hq:Bk w bq 4 #[.bool false])(hqm:bq≠bm):
 Kn w 33 #[.pointer (some ⟨bq,0,none⟩),.pointer (some ⟨bt,0,none⟩),.pointer (some ⟨bm,0,none⟩)] (fun b=>b=bm) K (fun W b=>Bk W bm 4 #[.bool b]) Ju:=by
 intro W k v l p hs hl hi;obtain⟨b0,hm⟩:=hi;have hq1:=hq.sm hs hqm;have HQ:=ns (BT hq1 (BT hm (BT hl (hg W hs))));have HC8:=ns (El W (hg W hs) 408 (by decide));have HC5:=ns (fun (w1:World) (h:Sm No W w1)=>El w1 ((hg W hs).no h) 503 (by decide));obtain⟨Al,cl,rfl, -⟩:=hl;obtain⟨nl,hnl⟩:∃ n,l.length=n:=⟨_,rfl⟩;have HN:=ns hnl;rw [hnl];obtain⟨z,hz⟩:=Iu (Ju l);rw [hz];have HZ:=ns hz;have HS:=ns hs;clear hq1 hm hs hq hqm hg hnl hz;show Calls Tryz.prog 33 #[.int .i64 (k:Int),.slice Al nl cl,.bool p,.pointer (some ⟨bq,0,none⟩),.pointer (some ⟨bt,0,none⟩),.pointer (some ⟨bm,0,none⟩)] W _;go_in;go_wp2_with fail;refine HC8.out.mono ?_;rintro e w1 ⟨v8,rfl,hv8,hs1⟩;have HH8:=ns (Jf (Jm.of hv8) (HQ.out.2.2.1.no hs1));rw [HN.out] at HH8;have HC51:=ns (HC5.out w1 hs1);have H1:=ns hs1;clear hv8 hs1;go_wp2_with fail;refine HH8.out.mono ?_;rintro e w2 ⟨rfl,rfl⟩;obtain⟨x8,hx8⟩:∃ x,I7 l (uN 408)=x:=⟨_,rfl⟩;rw [hx8];have HX8:=ns hx8;clear hx8
 cases x8 with
 |true=>
  have hm1:=HQ.out.2.1.sm H1.out (fun e=>e);have c0:=hm1.at 0 (v:=.bool b0) rfl;have f0:=hm1.fz 0;have l0:=hm1.lt;have HE:=ns (show z=true from by rw [←HZ.out];unfold Ju;rw [HX8.out];rfl);have HM:=ns hm1;clear hm1;go_wp2_with fail;go_ret;exact⟨by rw [HE.out];rfl,(H1.out.any _).tt (Sm.set1 (Sm.refl _ w1) 0 (.bool true)),by rw [HE.out];exact HM.out.set 0 (.bool true)⟩
 |false=>
  go_wp2_with fail;refine HC51.out.mono ?_;rintro e w2 ⟨v5,rfl,hv5,hs2⟩;have HH5:=ns (Jf (Jm.of hv5) ((HQ.out.2.2.1.no H1.out).no hs2));rw [HN.out] at HH5;have H2:=ns (H1.out.tt hs2);clear hv5 hs2;go_wp2_with fail;refine HH5.out.mono ?_;rintro e w3 ⟨rfl,rfl⟩;obtain⟨x5,hx5⟩:∃ x,I7 l (uN 503)=x:=⟨_,rfl⟩;rw [hx5];have hm2:=HQ.out.2.1.sm H2.out (fun e=>e);have hq2:=HQ.out.1.sm H2.out (fun e=>e);have c0:=hm2.at 0 (v:=.bool b0) rfl;have f0:=hm2.fz 0;have l0:=hm2.lt;have q0:=hq2.at 0 (v:=.bool false) rfl;have ql:=hq2.lt;have HE:=ns (show z=x5 from by rw [←HZ.out];unfold Ju;rw [HX8.out,hx5];rfl);have HM:=ns hm2;clear hm2 hq2 hx5
  cases x5 with
  |true=>
   go_wp2_with fail;go_ret;exact⟨by rw [HE.out];rfl,(H2.out.any _).tt (Sm.set1 (Sm.refl _ w2) 0 (.bool true)),by rw [HE.out];exact HM.out.set 0 (.bool true)⟩
  |false=>
   go_wp2_with fail;go_ret;exact⟨by rw [HE.out];rfl,(H2.out.any _).tt (Sm.set1 (Sm.refl _ w2) 0 (.bool false)),by rw [HE.out];exact HM.out.set 0 (.bool false)⟩
def Jp(L:List af)(out:af):Bool:=(I9 L out).2||(I5 Ju L out).2.2.2.2
theorem Js:∀ (m:List (af × af)) (out:af),Jd false m out=(I5 Ju (m.map (·.1)) out).2.2.2.2
 |[],out=>by
  rw [Jd,List.map_nil,I5,JK,JK];by_cases h:Ju out=true
  ·rw [if_pos h,h];rfl
  ·rw [if_neg h,Bool.eq_false_iff.2 h,Bool.false_or]
 |(a,c)::m,out=>by
  rw [Jd,List.map_cons,I5,JK,JK,Js m];dsimp only;by_cases h:Ju out=true
  ·rw [if_pos h,h];rfl
  ·rw [if_neg h,Bool.eq_false_iff.2 h,Bool.false_or];by_cases h2:(I7 I6 out&&Ju (IH out))=true
   ·rw [if_pos h2,h2];rfl
   ·rw [if_neg h2,Bool.eq_false_iff.2 h2,Bool.false_or];by_cases h3:I7 a (IH out)=true
    ·rw [if_pos h3,h3,Bool.true_and]
    ·rw [if_neg h3,Bool.eq_false_iff.2 h3,Bool.false_and]
theorem KD(m:List (af × af))(out:af):JL false m out=Jp (m.map (·.1)) out:=by
 unfold JL Jp;rw [Js]
theorem Kp (w:World) (hg:G1 w) (C:oa) (hok:C.ok=true) (T:List bE) (hCl:C.tl=T.length) (hT:ar w C.ta (cD T)) (h0:C.ta=none→T.length=0∧C.tc=0) (hTl:T.length≤1000000) (hsm:lZ T) (hS:dJ T=0) (hpl:∀ x∈T,Lib.hasPrefix (ab x.type) jz=false)
 (A:Option Addr) (cp:Nat) (t:af) (hR:ar w A (t.map aM)) (hn:A=none→t.length=0∧cp=0) (hcp:t.length≤cp) (hl:t.length≤100000) (hcp2:cp≤140737488351232)
 (K:Nat→Prop) (v:Value) (out:af) (hv:Jm w K v out) (hKw:∀ b,K b→b < w.heap.size) (hol:out.length≤500000000):
 Calls Tryz.prog 21 #[.agg C.vals,.slice A t.length cp,v,.bool false] w fun e w'=>e=.returned (.bool (Jp (iW T false t) out))∧Sm No w w':=by
 have HTo:=ns (fun (W:World) (h:Sm No w W)=>Bx W (hg.no h) C hok T hCl (hT.no h) h0 hTl hsm hS A cp t (hR.no h) hn hcp hl hcp2);have HPl:=ns (fun (W:World) (h:Sm No w W)=>J9 W (hg.no h) C hok T hCl (hT.no h) h0 hTl hsm hS hpl A cp t (hR.no h) hn hcp hl hcp2 K v out (hv.no h) (fun b e=>Nat.lt_of_lt_of_le (hKw b e) h.size) hol);have HG:=ns hg;have HK:=ns (BT hS (BT hsm (BT hpl hl)));have HL:=ns (BT hCl hTl);have HV:=ns (BT hv (BT hKw hol));obtain⟨Av,cv,rfl, -⟩:=hv;clear hg hok hT h0 hsm hS hpl hR hn hcp hcp2 hKw hol;obtain⟨nt,hnt⟩:∃ n,t.length=n:=⟨_,rfl⟩;rw [hnt] at HTo HPl hl ⊢;clear hnt;obtain⟨M,hM⟩:∃ x,Jp (iW T false t) out=x:=⟨_,rfl⟩;rw [hM];have HM:=ns hM;clear hM;unfold oa.vals;rw [hCl];go_in;go_upto_region 1 with fail;obtain⟨b0,hb0⟩:∃ b,w.heap.size=b:=⟨_,rfl⟩;obtain⟨w1,hw1⟩:∃ x,(w.alloc (.cells #[.int .i64 C.maxConns,.int .i64 C.maxPerPeer,.int .i64 C.pipeline,.int .i64 C.buffers,.int .i64 C.idle,.int .i64 C.head,.int .i64 C.body,.int .i64 C.write,.int .i64 C.linger,.int .i64 C.pace,.int .i64 C.paceBytes,.int .i64 C.base,.int .i64 C.cap,.bool C.refuse,.bool C.evict,.slice C.ta T.length C.tc] 25)).alloc (.cells #[.bool false] 4)=x:=⟨_,rfl⟩;have hs1:Sm No w w1:=by rw [←hw1];exact((Sm.refl No w).alloc _).alloc _
 have hbc:Bk w1 b0 25 C.vals:=by rw [←hw1,←hb0];unfold oa.vals;rw [HL.out.1];exact(Bk.new w _ _).alloc _
 have hbq:Bk w1 (b0+1) 4 #[.bool false]:=by rw [←hw1];exact Bk.newAt _ _ _ (by rw [←hb0];simp)
 rw [hw1,hb0];have HP1:=ns (HPl.out w1 hs1);unfold oa.vals at HP1;rw [hCl] at HP1;have H1:=ns (BT hs1 (BT hbc (BT hbq hb0)));have HB1:=ns (show Bk w1 b0 25 #[.int .i64 C.maxConns,.int .i64 C.maxPerPeer,.int .i64 C.pipeline,.int .i64 C.buffers,.int .i64 C.idle,.int .i64 C.head,.int .i64 C.body,.int .i64 C.write,.int .i64 C.linger,.int .i64 C.pace,.int .i64 C.paceBytes,.int .i64 C.base,.int .i64 C.cap,.bool C.refuse,.bool C.evict,.slice C.ta T.length C.tc] from by have:=hbc;unfold oa.vals at this;rw [HL.out.1] at this;exact this);clear hs1 hbc hbq hb0 hw1 HPl;go_wp2_with (refine bF rfl 25 _ rfl Tryz.underlying25 16 js _ rfl _ HB1.out rfl ?_);refine HP1.out.mono ?_;rintro e w2 ⟨vp,rfl, -,hs2⟩;obtain⟨ok,hok⟩:∃ x,(I9 (iW T false t) out).2=x:=⟨_,rfl⟩;rw [hok];have H2:=ns (BT hs2 (BT (H1.out.1.tt hs2) hok));have HB2:=ns (HB1.out.sm hs2 (fun e=>e));clear hs2 hok HP1
 cases ok with
 |true=>
  have HE:=ns (show M=true from by rw [←HM.out];unfold Jp;rw [H2.out.2.2];rfl);go_wp2_with fail;go_ret;exact⟨by rw [HE.out];rfl,H2.out.2.1⟩
 |false=>
  have HT2:=ns (HTo.out w2 H2.out.2.1);unfold oa.vals at HT2;rw [hCl] at HT2;clear hCl HTo;go_wp2_with (refine bF rfl 25 _ rfl Tryz.underlying25 16 js _ rfl _ HB2.out rfl ?_);refine HT2.out.mono ?_;rintro e w3 ⟨g,qs,rfl,hTel,hqx,hs3⟩;have hK:FX T t qs:=⟨HK.out.1,HK.out.2.1,HK.out.2.2.1,hqx,by have h:=oq t;rw [←hqx,List.length_map] at h;have:=HK.out.2.2.2;omega⟩;have H3:=ns (BT hTel (BT hK (BT hqx (BT hs3 (H2.out.2.1.tt hs3)))));clear hTel hK hqx hs3 HT2;go_upto_region 6 with fail;obtain⟨bt,hbt⟩:∃ b,w3.heap.size=b:=⟨_,rfl⟩;obtain⟨w5,hw5⟩:∃ x,(w3.alloc (.cells #[.pointer (some ⟨g,0,none⟩)] 51)).alloc (.cells #[.bool false] 4)=x:=⟨_,rfl⟩;have hs5:Sm No w3 w5:=by rw [←hw5];exact((Sm.refl No w3).alloc _).alloc _
  have hkt:Bk w5 bt 51 #[.pointer (some ⟨g,0,none⟩)]:=by rw [←hw5,←hbt];exact(Bk.new w3 _ _).alloc _
  have hkm:Bk w5 (bt+1) 4 #[.bool false]:=by rw [←hw5];exact Bk.newAt _ _ _ (by rw [←hbt];simp)
  rw [hw5,hbt];obtain⟨bm,hbm⟩:∃ b,bt+1=b:=⟨_,rfl⟩;obtain⟨bq,hbq⟩:∃ b,b0+1=b:=⟨_,rfl⟩;rw [hbm] at hkm ⊢;rw [hbq];have hz1:=H1.out.1.size;have hz2:=H2.out.1.size;have hz3:=H3.out.2.2.2.1.size;have hzq:=H1.out.2.2.1.lt;have hqm:bq≠bm:=by rw [hbq] at hzq;omega
  have hmb:w3.heap.size≤bm:=by omega
  have hw5:Sm No w w5:=H3.out.2.2.2.2.tt hs5;have hq5:Bk w5 bq 4 #[.bool false]:=by
   have h:=H1.out.2.2.1;rw [hbq] at h;exact((h.sm H2.out.1 (fun e=>e)).sm H3.out.2.2.2.1 (fun e=>e)).sm hs5 (fun e=>e)
  have hgW:∀ W,Sm (fun b=>b=bm) w5 W→G1 W:=fun W hW=>HG.out.no (hw5.fresh hW (fun b e=>by rw [e];have:=H3.out.2.2.2.2.size;omega));have HAl:=ns (Jy w5 _ g T t qs H3.out.2.1 33 #[.pointer (some ⟨bq,0,none⟩),.pointer (some ⟨bt,0,none⟩),.pointer (some ⟨bm,0,none⟩)] (fun b=>b=bm) K (fun W b=>Bk W bm 4 #[.bool b]) Ju Kg (J1 w5 bm hgW bq bt K hq5 hqm)
   (fun b e=>by rw [e];exact hkm.lt) (fun b e e2=>by have h1:=HV.out.2.1 b e;have:=H3.out.2.2.2.2.size;omega) (fun b e=>Nat.lt_of_lt_of_le (HV.out.2.1 b e) hw5.size) (fun W hW=>⟨hgW W hW,H3.out.1.no (hs5.fresh hW (fun b e=>by rw [e];exact hmb))⟩) (fun W W' b Z h hs hz=>h.sm hs (fun e=>hz _ e rfl)) ⟨false,hkm⟩ _ out (HV.out.1.no hw5) HV.out.2.2)
  rw [Gb T false H3.out.2.2.1] at HAl;have hmf:∀ (fn:Fn) (first cap:Array Value) (w:World),(Instr.makeFunc fn first cap).run Tryz.prog w=.ok (.func fn first cap) w:=fun _ _ _ _=>rfl;have kt:=hkt.at 0 (v:=.pointer (some ⟨g,0,none⟩)) rfl;have ktl:=hkt.lt;have H5:=ns (BT hw5 (BT hmb H3.out.2.2.2.2.size));clear hz1 hz2 hz3 hzq hqm hmb hq5 hgW hs5 hkt hkm hbt hbm hbq;go_wp2_with fail;clear hmf;refine HAl.out.mono ?_;rintro e w6 ⟨vw,vl,R,hR,rfl, -, -,hm6,hs6⟩;have m0:=hm6.at 0 (v:=.bool R.2.2.2.2) rfl;have ml:=hm6.lt;have HE:=ns (show M=R.2.2.2.2 from by rw [←HM.out];unfold Jp;rw [H2.out.2.2,hR];rfl);have H6:=ns (H5.out.1.fresh hs6 (fun b e=>by rw [e];exact Nat.le_trans H5.out.2.2 H5.out.2.1));clear hR hm6 hs6 kt ktl;go_wp2_with fail;go_ret;exact⟨by rw [HE.out];rfl,H6.out⟩
def KH(w:World)(l m:List UInt8)(i:Value)(wr:World):Prop:=∃ k:Nat,k≤l.length∧i=.int .i64 (k:Int)∧l.take k=m.take k∧Sm No w wr
theorem Ke{l m:List UInt8}{k:Nat}(h:l.take k=m.take k)(hl:k < l.length)(hm:k < m.length)(e:l[k]=m[k]):l.take (k+1)=m.take (k+1):=by
 rw [List.take_add_one,List.take_add_one,h,List.getElem?_eq_getElem hl,List.getElem?_eq_getElem hm,e]
theorem J5(w:World)(A B:Option Addr)(c d:Nat)(l m:List UInt8)(hA:ar w A (bC l))(hB:ar w B (bC m))(hl:l.length≤1000000000):
 Calls Tryz.prog 15 #[.slice A l.length c,.slice B m.length d] w fun e w'=>e=.returned (.bool (decide (l=m)))∧Sm No w w':=by
 have HA:=ns (BT hA hB);clear hA hB;obtain⟨z,hz⟩:=Iu (decide (l=m));rw [hz];have HZ:=ns hz;clear hz;obtain⟨nl,hnl⟩:∃ n,l.length=n:=⟨_,rfl⟩;obtain⟨nm,hnm⟩:∃ n,m.length=n:=⟨_,rfl⟩;have HN:=ns (BT hnl hnm);rw [hnl,hnm];rw [hnl] at hl;clear hnl hnm;by_cases hne:nl=nm
 ·subst hne;go_in;go_wp2_with fail
  go_loopw [5] (fun i wr=>KH w l m i wr) (fun i _=>nl-(intOf i).toNat)
  case atStart=>exact⟨0,Nat.zero_le _,rfl,rfl,Sm.refl _ _⟩
  case round=>
   obtain⟨k,hk,rfl,ht,hs⟩:=hrel;rw [HN.out.1] at hk;have HS:=ns (BT ht hs);clear hs ht;by_cases hlt:k < nl
   ·have h1:k < l.length:=by rw [HN.out.1];exact hlt
    have h2:k < m.length:=by rw [HN.out.2];exact hlt
    obtain⟨b1,o1,hA1,hb1,r0⟩:=(HA.out.1.no HS.out.2).at (show (bC l)[k]?=some (.int .u8 (l[k].toNat:Int)) by simp [bC,h1]);obtain⟨b2,o2,hA2,hb2,r1⟩:=(HA.out.2.no HS.out.2).at (show (bC m)[k]?=some (.int .u8 (m[k].toNat:Int)) by simp [bC,h2]);subst hA1 hA2;have k1:(0:Int)≤(k:Int):=by omega
    have k2:(k:Int) < (nl:Int):=by omega
    obtain⟨x,hx⟩:=Iu (l[k]);obtain⟨y,hy⟩:∃ x,m[k]=x:=⟨_,rfl⟩;rw [hx] at r0;rw [hy] at r1;by_cases hxy:x=y
    ·subst hxy;have HT:=ns (Ke HS.out.1 h1 h2 (hx.trans hy.symm));obtain⟨xn,hxn⟩:∃ z,(x.toNat:Int)=z:=⟨_,rfl⟩;rw [hxn] at r0 r1;clear h1 h2 hx hy hxn;go_wp2_with fail;go_quiet (fail);go_wp2_with fail;exact⟨⟨k+1,by rw [HN.out.1];exact hlt,by go_num,HT.out,HS.out.2.drewN _⟩,by simp [intOf];omega⟩
    ·have HE:=ns (show z=false from by
      rw [←HZ.out,decide_eq_false];intro e;subst e;exact hxy (hx.symm.trans hy))
     have hxn:((x.toNat:Int)==(y.toNat:Int))=false:=by
      rw [beq_eq_false_iff_ne];intro e;exact hxy (UInt8.toNat_inj.mp (by omega))
     have hxn2:((x.toNat:Int) != (y.toNat:Int))=true:=by rw [bne,hxn];rfl
     obtain⟨xn,hx3⟩:∃ z,(x.toNat:Int)=z:=⟨_,rfl⟩;obtain⟨yn,hy3⟩:∃ z,(y.toNat:Int)=z:=⟨_,rfl⟩;rw [hx3] at r0 hxn hxn2;rw [hy3] at r1 hxn hxn2;clear h1 h2 hx hy hxy hx3 hy3;go_wp2_with fail;go_quiet (fail);go_wp2_with fail;go_ret;exact⟨by rw [HE.out];rfl,HS.out.2.drewN _⟩
   ·have HE:=ns (show z=true from by
     rw [←HZ.out,decide_eq_true];have h:=HS.out.1
     rwa [List.take_of_length_le (by rw [HN.out.1];omega),List.take_of_length_le (by rw [HN.out.2];omega)] at h)
    go_wp2_with fail;go_ret;exact⟨by rw [HE.out];rfl,HS.out.2⟩
 ·have hnb:((nl:Int) != (nm:Int))=true:=by rw [bne_iff_ne];omega
  have HE:=ns (show z=false from by
   rw [←HZ.out,decide_eq_false];intro e;subst e;exact hne (HN.out.1.symm.trans HN.out.2))
  clear hne;go_in;go_wp2_with fail;go_ret;exact⟨by rw [HE.out];rfl,Sm.refl _ _⟩
theorem Ks(T:List bE)(q:Bool)(t:af)(hT:dJ T=0):∀ a∈iW T q t,a.length≤65536:=by
 intro a ha;unfold iW at ha;have key:∀ (r:gA) (hd cl:Bool) (mi:Int),iP r→(gQ r hd mi cl).length≤65536:=fun r hd cl mi hn=>by
  have h:=hn.enc hd cl mi;rcases Nat.lt_or_ge 65536 (gQ r hd mi cl).length with h2|h2
  ·rw [Dw hn.may h2] at h;cases h
  ·exact h2
 rcases List.mem_append.1 ha with ha|ha
 ·obtain⟨x,hx,rfl⟩:=List.mem_map.1 ha;exact key _ _ _ _ (qE hT ((sC t).1 x hx))
 ·unfold tC at ha;split at ha
  ·rename_i hp
   rw [List.mem_singleton] at ha;subst ha;have h4:om (ap t).2.2≠0:=fun e=>kV.1 e hp;have h5:=rL h4;rw [h5.2.2];exact key _ _ _ _ (ee (yD _ h5.1) (by decide) (fun x hx=>by cases hx))
  ·cases ha
theorem Kc{c:Nat}:∀ (l:List af),(∀ a∈l,a.length≤c)→l.flatten.length≤l.length * c
 |[],_=>Nat.zero_le _
 |a::l,h=>by
  have h1:=h a (List.mem_cons_self ..);have h2:=Kc l (fun x hx=>h x (List.mem_cons_of_mem _ hx));rw [List.flatten_cons,List.length_append,List.length_cons,Nat.add_mul];omega
theorem JZ{a b:af}(h:a.take (min a.length b.length)≠b.take (min a.length b.length)):¬a <+:b∧¬b <+:a:=by
 constructor
 ·intro e;apply h;have hl:=e.length_le;rw [Nat.min_eq_left hl,List.take_of_length_le (Nat.le_refl _)];exact List.prefix_iff_eq_take.1 e
 ·intro e;apply h;have hl:=e.length_le;rw [Nat.min_eq_right hl,List.take_of_length_le (l:=b) (Nat.le_refl _)];exact(List.prefix_iff_eq_take.1 e).symm
theorem Kf(l:List af):Jj (l.map fun a=>(false,a))=l.flatten:=by
 induction l with
 |nil=>rfl
 |cons a l ih=>rw [List.map_cons,Jj,ih,List.flatten_cons];rfl
def JW(l:List af):List (af × af):=l.map fun a=>(a,a)
theorem Jo(l:List af):(JW l).map (·.1)=l:=by unfold JW;rw [List.map_map];exact List.map_id l
theorem Jx{l r:List af}{a b:af}(h:∀ x∈l,yt x)(hb:yt b)(ha:∀ x,r.head?=some x→x=a)(h1:¬a <+:b)(h2:¬b <+:a):Jp (l++r) (l.flatten++b)=false:=by
 have e:=Kh (m:=JW l) (l:=l.map fun a=>(false,a)) (b:=b) (n:=JW r) (a:=a) (fun x hx=>by obtain⟨y,hy,rfl⟩:=List.mem_map.1 hx;exact h y hy) hb (by rw [Jo,List.map_map];exact(List.map_id l).symm) (fun x hx=>by
  unfold JW at hx;rw [List.head?_map] at hx;obtain⟨y,hy,rfl⟩:=Option.map_eq_some_iff.1 hx;exact ha y hy) h1 h2
 rw [KD,List.map_append,Jo,Jo,Kf] at e;exact e
theorem Kw{a b:af}{r:List af}(_ha:yt a)(hb:yt b)(h1:¬a <+:b)(h2:¬b <+:a):Jp (a::b::r) (b++a)=false:=by
 have e:=Jx (l:=[]) (r:=a::b::r) (a:=a) (b:=b++a) (fun x hx=>by cases hx) (hb.app a) (fun x hx=>by injection hx with hx;exact hx.symm) (fun e=>by
  rcases List.prefix_or_prefix_of_prefix e (List.prefix_append b a) with h|h
  ·exact h1 h
  ·exact h2 h) (fun e=>h2 ((List.prefix_append b a).trans e))
 exact e
theorem KA{a b:af}{r:List af}(hb:yt b)(h1:¬a <+:b)(h2:¬b <+:a):Jp (a::b::r) b=false:=
 Jx (l:=[]) (r:=a::b::r) (a:=a) (b:=b) (fun x hx=>by cases hx) hb (fun x hx=>by injection hx with hx;exact hx.symm) h1 h2
theorem KB{a b:af}{r:List af}(ha:yt a)(h1:¬a <+:b)(h2:¬b <+:a):Jp (a::b::r) (a++a)=false:=by
 have e:=Jx (l:=[a]) (r:=b::r) (a:=b) (b:=a) (fun x hx=>by rw [List.mem_singleton] at hx;rw [hx];exact ha) ha (fun x hx=>by injection hx with hx;exact hx.symm) h2 h1;rw [List.flatten_singleton] at e;exact e
theorem Kx{a b:af}{r:List af}(h:∀ x∈a::b::r,yt x)(h1:¬a <+:b)(h2:¬b <+:a):Jp (a::b::r) ((a::b::r).flatten++a)=false:=by
 have e:=Jx (l:=a::b::r) (r:=[]) (a:=b) (b:=a) h (h a (List.mem_cons_self ..)) (fun x hx=>by cases hx) h2 h1;rw [List.append_nil] at e;exact e
def eL:bE:=⟨⟨#[47,97]⟩,⟨#[116,101,120,116,47,112,108,97,105,110]⟩,⟨#[104,101,108,108,111]⟩⟩
theorem JP:dJ [eL]=0:=by decide+kernel
theorem JR:lZ [eL]:=fun x hx=>by
 rw [List.mem_singleton] at hx;subst hx;exact⟨by decide,by decide,by decide⟩
theorem JX:∀ x∈[eL],Lib.hasPrefix (ab x.type) jz=false:=fun x hx=>by
 rw [List.mem_singleton] at hx;subst hx;decide+kernel
structure KF (w:World) (A:Option Addr) (c:Nat) (b:af) (g:Nat):Prop where
 an:∀ W,Sm No w W→Calls Tryz.prog 8 #[.agg (iX (some ⟨g,0,none⟩) 1 1).vals,.slice A b.length c] W (mW W [eL] b)
 may:∀ W,Sm No w W→∀ (K:Nat→Prop) (v:Value) (out:af),Jm W K v out→(∀ x,K x→x < W.heap.size)→out.length≤500000000→Calls Tryz.prog 21 #[.agg (iX (some ⟨g,0,none⟩) 1 1).vals,.slice A b.length c,v,.bool false] W fun e w'=>e=.returned (.bool (Jp (iW [eL] false b) out))∧Sm No W w'
theorem KI(w0 w:World)(hg:G1 w)(A:Option Addr)(b:List UInt8)(c:Nat)(hB:AP w0 A b c)(hs:Sm No w0 w)(hl:b.length≤100000)(g:Nat)(hb:Bk w g 50 #[.string eL.path,.string eL.type,.string eL.data]):KF w A c b g:=by
 have hT:∀ W,Sm No w W→ar W (some ⟨g,0,none⟩) (cD [eL]):=fun W h=>io (hb.sm h (fun e=>e));have hn:A=none→b.length=0∧c=0:=fun e=>⟨by have h1:=hB.2.2.2 e;have h2:=hB.2.1;omega,hB.2.2.2 e⟩;exact⟨fun W h=>li W (hg.no h) (iX (some ⟨g,0,none⟩) 1 1) rfl [eL] rfl (hT W h) (fun e=>by cases e) (by decide) JR JP JX A c b ((hB.1.no hs).no h) hn hB.2.1 hl hB.2.2.1,
  fun W h K v out hv hK ho=>Kp W (hg.no h) (iX (some ⟨g,0,none⟩) 1 1) rfl [eL] rfl (hT W h) (fun e=>by cases e) (by decide) JR JP JX A c b ((hB.1.no hs).no h) hn hB.2.1 hl hB.2.2.1 K v out hv hK ho⟩
theorem Jz{w:World}{B g size:Nat}{t:TypeId}(h:Bk w g t #[])(hB:B≤g):w.ownsRow B t size (.slice (some ⟨g,0,none⟩) 0 0) 0 []:=
 bc (qj h) (fun b e=>by injection e with e;rw [←e];exact hB)
theorem Jl(A:Option Addr)(n c:Nat):(iX A n c).vals=#[.int .i64 4,.int .i64 4,.int .i64 2,.int .i64 4,.int .i64 50,.int .i64 20,.int .i64 30,.int .i64 40,.int .i64 10,.int .i64 0,.int .i64 0,.int .i64 2,.int .i64 16,.bool false,.bool false,.slice A n c]:=rfl
theorem J4(w:World)(hg:G1 w)(A:Option Addr)(b:List UInt8)(c:Nat)(z:Int)(hB:AP w A b c)(_hz:(Lit.int .i64 z).wf=true):
 Calls Tryz.prog 6 #[.slice A b.length c,.int .i64 z] w fun e w'=>e=.returned (.bool true)∧Sm No w w':=by
 have hbl:(b.length:Int)≤140737488351232:=by have:=hB.2.1;have:=hB.2.2.1;omega
 by_cases hbig:4000 < b.length
 ·have i1:(4000:Int) < (b.length:Int):=by omega
  clear hB hg;go_in;go_wp2_with fail;go_ret;exact⟨rfl,Sm.refl _ _⟩
 ·have i1:¬(4000:Int) < (b.length:Int):=by omega
  have HK:=ns (fun (W:World) (h:Sm No w W)=>uh W (hg.no h));have HRd:=ns (fun (W:World) (h:Sm No w W)=>Ak W A c b (hB.1.no h) (fun e=>by have h1:=hB.2.2.2 e;have h2:=hB.2.1;omega) hB.2.1 (by omega) hB.2.2.1);obtain⟨w1,hw1⟩:∃ x,w.alloc (.cells #[.string ⟨#[47,97]⟩,.string ⟨#[116,101,120,116,47,112,108,97,105,110]⟩,.string ⟨#[104,101,108,108,111]⟩] 50)=x:=⟨_,rfl⟩;obtain⟨g,hgb⟩:∃ x,w.heap.size=x:=⟨_,rfl⟩;have hs1:Sm No w w1:=by rw [←hw1];exact(Sm.refl No w).alloc _
  have hb1:Bk w1 g 50 #[.string eL.path,.string eL.type,.string eL.data]:=by rw [←hw1,←hgb];exact Bk.new w _ _
  have HLC:=ns (KI w w1 (hg.no hs1) A b c hB hs1 (by omega) g hb1);have HP:=ns (fun W=>my W (some ⟨g,0,none⟩) 1 1);have HW:=ns (BT hs1 (BT hw1 hgb));have HLen:=ns (show b.length≤4000 by omega);clear hB hg hbig hs1 hb1 hw1 hgb;obtain⟨nb,hnb⟩:∃ x,b.length=x:=⟨_,rfl⟩;have HNB:=ns hnb;rw [hnb] at i1 hbl HRd ⊢;clear hnb;go_in;go_wp2_with fail;rw [HW.out.2.1,HW.out.2.2];refine(HP.out w1).mono ?_;rintro e w2 ⟨rfl,hs2⟩;rw [Jl];have HS2:=ns hs2;clear hs2;go_upto_region 4 with fail;obtain⟨b5,hb5⟩:∃ x,w2.heap.size=x:=⟨_,rfl⟩;obtain⟨w3,hw3⟩:∃ x,w2.alloc (.cells #[.int .i64 4,.int .i64 4,.int .i64 2,.int .i64 4,.int .i64 50,.int .i64 20,.int .i64 30,.int .i64 40,.int .i64 10,.int .i64 0,.int .i64 0,.int .i64 2,.int .i64 16,.bool false,.bool false,.slice (some ⟨g,0,none⟩) 1 1] 25)=x:=⟨_,rfl⟩;have hs3:Sm No w1 w3:=by rw [←hw3];exact HS2.out.alloc _
  have hb3:Bk w3 b5 25 #[.int .i64 4,.int .i64 4,.int .i64 2,.int .i64 4,.int .i64 50,.int .i64 20,.int .i64 30,.int .i64 40,.int .i64 10,.int .i64 0,.int .i64 0,.int .i64 2,.int .i64 16,.bool false,.bool false,.slice (some ⟨g,0,none⟩) 1 1]:=by rw [←hw3,←hb5];exact Bk.new w2 _ _
  rw [hw3,hb5];have HA:=ns (HLC.out.an w3 hs3);rw [Jl,HNB.out] at HA;have H3:=ns (BT hs3 (BT hb3 (HW.out.1.tt hs3)));clear hw3 hb5 hs3 hb3;go_wp2_with (refine bF rfl 25 _ rfl Tryz.underlying25 16 js _ rfl _ H3.out.2.1 rfl ?_);refine HA.out.mono ?_;rintro e w4 ⟨v4,ms,R4,rfl,hm4,hr4,hrb4,hs4⟩;obtain⟨A4,c4,rfl,hrow4,hc4,hn4⟩:=ak hr4.own;have HR1:=ns (HRd.out w4 (H3.out.2.2.tt hs4));have H4:=ns (BT hm4 (BT hr4 (BT hs4 (BT hrow4 (BT hc4 (BT hrb4 hn4))))));clear hm4 hr4 hs4 hrow4 hc4 hrb4 hn4 HA;go_wp2_with fail;refine HR1.out.mono ?_;rintro e w5 ⟨v5,qs,R5,rfl,hqx,hq5, -,hs5⟩;obtain⟨A5,c5,rfl,hrow5, -⟩:=ak hq5.own;unfold ul;have hms:ms.length=(ap b).1.length+(tC (ap b).2.2).length:=by
   have:=congrArg List.length H4.out.1;rw [List.length_map] at this;rw [this];unfold iW;rw [List.length_append,List.length_map]
  have hql:qs.length=(ap b).1.length:=by rw [←hqx,List.length_map]
  have href:(tC (ap b).2.2).length≤1:=by unfold tC;split<;>simp
  obtain⟨nq,hnq⟩:∃ x,qs.length=x:=⟨_,rfl⟩;obtain⟨nm,hnm⟩:∃ x,ms.length=x:=⟨_,rfl⟩;have j1:¬(nm:Int) < (nq:Int):=by omega
  have j2:¬(nq:Int)+1 < (nm:Int):=by omega
  have j3:decide ((nm:Int) < (nq:Int))=false:=decide_eq_false j1;have j4:decide ((nq:Int)+1 < (nm:Int))=false:=decide_eq_false j2;have HM:=ns hnm;have hmb:nm≤4001:=by have h1:=Di [eL] false b;rw [←H4.out.1,List.length_map] at h1;have:=HLen.out;omega
  rw [hnq,hnm];have H5:=ns (BT hs5 (H3.out.2.2.tt (H4.out.2.2.1.trans hs5 (fun _ _ e=>e))));clear hqx hq5 hrow5 hms hql href hnq hnm hs5;obtain⟨sn,hsn⟩:∃ x,(ap b).2.1=x:=⟨_,rfl⟩;obtain⟨ph,hph⟩:∃ x,(ap b).2.2.phase=x:=⟨_,rfl⟩;obtain⟨st,hst⟩:∃ x,(ap b).2.2.status=x:=⟨_,rfl⟩;rw [hsn,hph,hst];clear hsn hph hst;have H5:=ns (BT H5.out.1 (BT H5.out.2 (fun (W:World) (h:Sm No w5 W)=>HK.out W (H5.out.2.tt h))));by_cases h2:nm < 2
  ·have k1:(nm:Int) < 2:=by omega
   go_wp2_with fail;refine(H5.out.2.2 _ ((Sm.refl No w5).alloc _)).mono ?_;rintro e w6 ⟨rfl,hs6⟩;have H6:=ns ((H5.out.2.1.alloc _).tt hs6);clear hs6;go_wp2_with fail;go_ret;exact⟨rfl,H6.out⟩
  ·have k1:¬(nm:Int) < 2:=by omega
   obtain⟨m0,m1,mr,rfl⟩:∃ m0 m1 mr,ms=m0::m1::mr:=by
    have h:=HM.out
    match ms,h with
    |m0::m1::mr,_=>exact⟨m0,m1,mr,rfl⟩
    |[_],h=>rw [List.length_singleton] at h;omega
    |[],h=>rw [List.length_nil] at h;omega
   go_upto_region 10 with fail;obtain⟨w6,hw6⟩:∃ x,w5.alloc (.cells #[.int .i64 (sn:Int),.int .i64 ph,.int .i64 st] 32)=x:=⟨_,rfl⟩;have hs6:Sm No w5 w6:=by rw [←hw6];exact(Sm.refl No w5).alloc _
   rw [hw6];have h46:Sm No w4 w6:=H5.out.1.tt hs6;obtain⟨bb,off,rfl,hbb,rA⟩:=D1 (H4.out.2.2.2.1.no h46) (show 0 < (m0::m1::mr).length by simp);obtain⟨_,_,hA1,_,rB⟩:=D1 (H4.out.2.2.2.1.no h46) (show 1 < (m0::m1::mr).length by simp);injection hA1 with hA1;injection hA1 with e1 e2;subst e1 e2;have q0:=(H4.out.2.1.ok m0 (List.mem_cons_self ..)).sm h46 (fun _ _ e=>e);have q1:=(H4.out.2.1.ok m1 (List.mem_cons_of_mem _ (List.mem_cons_self ..))).sm h46 (fun _ _ e=>e);obtain⟨t0,a0,c0⟩:=m0;obtain⟨t1,a1,c1⟩:=m1;have hL:iW [eL] false b=t0::t1::mr.map (·.t):=H4.out.1.symm;have hI:=Ku [eL] false b;have hz:=Ks [eL] false b JP;rw [hL] at hI hz;have z0:t0.length≤65536:=hz t0 (List.mem_cons_self ..);have z1:t1.length≤65536:=hz t1 (List.mem_cons_of_mem _ (List.mem_cons_self ..));obtain⟨n0,hn0⟩:∃ x,t0.length=x:=⟨_,rfl⟩;obtain⟨n1,hn1⟩:∃ x,t1.length=x:=⟨_,rfl⟩;have r0:w6.cell? ⟨bb,off,none⟩=some (.slice a0 n0 c0):=by rw [←hn0];exact rA
   have r1:w6.cell? ⟨bb,off+1,none⟩=some (.slice a1 n1 c1):=by rw [←hn1];exact rB
   have HQ:=ns (BT hn0 (BT hn1 (BT q0 (BT q1 (BT hL (BT hI hz))))));rw [hn0] at z0;rw [hn1] at z1;have H6:=ns (BT hs6 (BT (H5.out.2.1.tt hs6) h46));obtain⟨k,hk⟩:∃ x,min n0 n1=x:=⟨_,rfl⟩;have hk0:k≤n0:=by omega
   have hk1:k≤n1:=by omega
   have hmin:min (n0:Int) (n1:Int)=(k:Int):=by omega
   have HKk:=ns hk;have l0:n0≤c0:=by have:=q0.le;rw [←hn0];exact this
   have l1:n1≤c1:=by have:=q1.le;rw [←hn1];exact this
   have u2:(2:Int)≤(nm:Int):=by omega
   have u1:(1:Int) < (nm:Int):=by omega
   have u0:(0:Int) < (nm:Int):=by omega
   clear hw6 hs6 h46 q0 q1 hL hI hz hn0 hn1 hk rA rB;have HSm:=ns (fun (W:World) (hW:Sm No w6 W)=>show Calls Tryz.prog 15 #[.slice a0 k c0,.slice a1 k c1] W (fun e w'=>e=.returned (.bool (decide (t0.take k=t1.take k)))∧Sm No W w') from by
    have e:=J5 W a0 a1 c0 c1 (t0.take k) (t1.take k) (sN (HQ.out.2.2.1.r.no hW) k) (sN (HQ.out.2.2.2.1.r.no hW) k) (by rw [List.length_take];omega)
    rwa [List.length_take,List.length_take,HQ.out.1,HQ.out.2.1,Nat.min_eq_left hk0,Nat.min_eq_left hk1] at e)
   have v0:(k:Int)≤(n0:Int):=by omega
   have v1:(k:Int)≤(n1:Int):=by omega
   have v2:(k:Int)≤(c0:Int):=by omega
   have v3:(k:Int)≤(c1:Int):=by omega
   have v4:(0:Int)≤(k:Int):=by omega
   have y0:0 < nm:=by omega
   have y1:1 < nm:=by omega
   have y2:k≤c0:=by omega
   have y3:k≤c1:=by omega
   go_quiet (fail);go_upto_region 11 with fail;obtain⟨x,hx⟩:=Iu (decide (t0.take k=t1.take k));rw [hx] at HSm;have HX:=ns hx;clear hx
   go_region_law
    (first
     |(go_simp;refine(HSm.out _ (by repeat (first|exact Sm.refl _ _|apply Sm.drew|apply Sm.drewN))).mono ?_;rintro e w7 ⟨rfl,hs7⟩;have H7:=ns (Sm.trans (w:=w6) (S:=No) (by repeat (first|exact Sm.refl _ _|apply Sm.drew|apply Sm.drewN)) hs7 (fun _ _ h=>h));clear hs7)
     |fail)
   all_goals
    cases x with
    |true=>
     go_wp2_with fail;refine(H5.out.2.2 w7 (H6.out.1.tt H7.out)).mono ?_;rintro e w8 ⟨rfl,hs8⟩;have H8:=ns ((H6.out.2.1.tt H7.out).tt hs8);clear hs8;go_wp2_with fail;go_ret;exact⟨rfl,H8.out⟩
    |false=>
     obtain⟨p1,p2⟩:=JZ (a:=t0) (b:=t1) (by rw [HQ.out.1,HQ.out.2.1,HKk.out];exact of_decide_eq_false HX.out);obtain⟨wk,hwk,hbits⟩:=Ga z 3 (by decide);have hbits:bits .and .i64 z (3:Int)=(wk:Int):=hbits;have s0:=H7.out.cell hbb r0;have s1:=H7.out.cell hbb r1;have hb7:bb < w7.heap.size:=Nat.lt_of_lt_of_le hbb H7.out.size;have HPP:=ns (BT p1 p2);clear p1 p2 r0 r1 hmin HSm v0 v1 v2 v3 v4 y2 y3 j1 j2 j3 j4;go_upto_block 0 with fail;have hrw0:=ns (show ar w7 a0 (bC t0)∧(a0=none→n0=0∧c0=0)∧(bC t0).length=n0 * 1 from⟨HQ.out.2.2.1.r.no H7.out,fun e=>by have h:=HQ.out.2.2.1.n e;rw [←HQ.out.1];exact h,by rw [AK,HQ.out.1,Nat.mul_one]⟩);have hrw1:=ns (show ar w7 a1 (bC t1)∧(a1=none→n1=0∧c1=0)∧(bC t1).length=n1 * 1 from⟨HQ.out.2.2.2.1.r.no H7.out,fun e=>by have h:=HQ.out.2.2.2.1.n e;rw [←HQ.out.2.1];exact h,by rw [AK,HQ.out.2.1,Nat.mul_one]⟩);have HS7:=ns (fun (W:World) (h:Sm No w7 W)=>show W.cell? ⟨bb,off,none⟩=some (.slice a0 n0 c0)∧W.cell? ⟨bb,off+1,none⟩=some (.slice a1 n1 c1) from⟨h.cell hb7 s0,h.cell hb7 s1⟩)
     go_cut [11,12] from 70 to 115 (fun ov _ wx=>∃ out,ay wx w7.heap.size ov out∧out.length≤400000000∧Jp (iW [eL] false b) out=false∧Sm No w7 wx)
     case first=>
      rcases (show wk=0∨wk=1∨wk=2∨wk=3 by omega) with rfl|rfl|rfl|rfl
      ·go_upto_region 21 with fail
       go_region_held3 (fun w'=>w'.cell? ⟨bb,off,none⟩=some (.slice a0 n0 c0)∧w'.cell? ⟨bb,off+1,none⟩=some (.slice a1 n1 c1)) (first|with_reducible exact⟨s0,s1⟩|with_reducible exact k9|with_reducible exact k8|(refine HS7.out _ (by repeat (first|with_reducible exact Sm.refl _ _|with_reducible assumption|with_reducible refine Sm.drew ?_|with_reducible refine Sm.alloc ?_ _))))
        (first
         |(refine jp (by rfl) _ _ 22 5 (by rfl) Tryz.underlying22 _ 1 1 eE rfl (by decide) (by decide) w7.heap.size _ (by rfl) (Jz (by repeat (first|with_reducible exact Bk.new _ _ _|(with_reducible refine Bk.newAt _ _ _ ?_;(simp;done))|with_reducible refine Bk.drew ?_|with_reducible refine Bk.alloc ?_ _)) (by first|exact Nat.le_refl _|(simp;done))) a1 n1 c1 (bC t1) (by rfl) hrw1.out.2.1 hrw1.out.2.2 (ar.no hrw1.out.1 (by repeat (first|with_reducible exact Sm.refl _ _|with_reducible assumption|with_reducible refine Sm.drew ?_|with_reducible refine Sm.alloc ?_ _))) (zD t1) (by omega) (by first|exact Nat.le_refl _|(simp;done)) ?_;intro A1 C1 w8 hown8 hs8 _;have h78:Sm No w7 w8:=Cq (by repeat (first|with_reducible exact Sm.refl _ _|with_reducible assumption|with_reducible refine Sm.drew ?_|with_reducible refine Sm.alloc ?_ _)) hs8 (by first|exact Nat.le_refl _|(simp;done));have k8:=HS7.out _ h78;have H8:=ns (BT hown8 h78);clear hown8 hs8)
         |(refine jR (by rfl) _ _ 22 5 (by rfl) Tryz.underlying22 _ 1 1 eE rfl (by decide) (by decide) w7.heap.size n1 _ (bC t1) (by rfl) H8.out.1 a0 n0 c0 (bC t0) (by rfl) hrw0.out.2.1 hrw0.out.2.2 (ar.no hrw0.out.1 h78) (zD t0) (by omega) h78.size ?_;intro A2 C2 w9 hown9 hs9 _;have h79:=h78.fresh hs9 (fun b e=>(World.ownsRow.lt H8.out.1 b e).1);have k9:=HS7.out _ h79;have H9:=ns (BT hown9 h79);clear hown9 hs9))
       all_goals
        go_wp2_with fail;go_meet;refine⟨t1++t0,?_,by rw [List.length_append,HQ.out.2.1,HQ.out.1];omega,by rw [HQ.out.2.2.2.2.1];exact Kw (HQ.out.2.2.2.2.2.1 _ (List.mem_cons_self ..)) (HQ.out.2.2.2.2.2.1 _ (List.mem_cons_of_mem _ (List.mem_cons_self ..))) HPP.out.1 HPP.out.2,H9.out.2⟩;show World.ownsRow _ _ 5 1 _ (t1++t0).length ((t1++t0).map aM);rw [List.length_append,List.map_append,HQ.out.2.1,HQ.out.1];exact H9.out.1
      ·go_wp2_with (refine Ja rfl _ _ 22 5 rfl Tryz.underlying22 _ eE rfl w7.heap.size 0 _ [] rfl (lI w7 _ _ (Nat.le_refl _)) a1 n1 c1 (bC t1) rfl hrw1.out.2.1 (by rw [hrw1.out.2.2,Nat.mul_one]) (hrw1.out.1.no ((Sm.refl No w7).alloc _)) (zD t1) (by omega) (by simp) ?_;intro v8 w8 hown8 hs8;refine RowKit.Hid.out ?_);refine ns ?_;have h78:Sm No w7 w8:=Cq ((Sm.refl No w7).alloc _) hs8 (Nat.le_refl _);have H8:=ns (BT hown8 h78);clear hown8 hs8 h78;go_wp2_with fail;go_meet;refine⟨t1,?_,by rw [HQ.out.2.1];omega,by rw [HQ.out.2.2.2.2.1];exact KA (HQ.out.2.2.2.2.2.1 _ (List.mem_cons_of_mem _ (List.mem_cons_self ..))) HPP.out.1 HPP.out.2,H8.out.2⟩;have h:=H8.out.1;rw [Nat.zero_add,List.nil_append] at h;show World.ownsRow _ _ 5 1 _ t1.length (t1.map aM);rw [HQ.out.2.1];exact h
      ·go_upto_region 25 with fail
       go_region_held3 (fun w'=>w'.cell? ⟨bb,off,none⟩=some (.slice a0 n0 c0)∧w'.cell? ⟨bb,off+1,none⟩=some (.slice a1 n1 c1)) (first|with_reducible exact⟨s0,s1⟩|with_reducible exact k9|with_reducible exact k8|(refine HS7.out _ (by repeat (first|with_reducible exact Sm.refl _ _|with_reducible assumption|with_reducible refine Sm.drew ?_|with_reducible refine Sm.alloc ?_ _))))
        (first
         |(refine jp (by rfl) _ _ 22 5 (by rfl) Tryz.underlying22 _ 1 1 eE rfl (by decide) (by decide) w7.heap.size _ (by rfl) (Jz (by repeat (first|with_reducible exact Bk.new _ _ _|(with_reducible refine Bk.newAt _ _ _ ?_;(simp;done))|with_reducible refine Bk.drew ?_|with_reducible refine Bk.alloc ?_ _)) (by first|exact Nat.le_refl _|(simp;done))) a0 n0 c0 (bC t0) (by rfl) hrw0.out.2.1 hrw0.out.2.2 (ar.no hrw0.out.1 (by repeat (first|with_reducible exact Sm.refl _ _|with_reducible assumption|with_reducible refine Sm.drew ?_|with_reducible refine Sm.alloc ?_ _))) (zD t0) (by omega) (by first|exact Nat.le_refl _|(simp;done)) ?_;intro A1 C1 w8 hown8 hs8 _;have h78:Sm No w7 w8:=Cq (by repeat (first|with_reducible exact Sm.refl _ _|with_reducible assumption|with_reducible refine Sm.drew ?_|with_reducible refine Sm.alloc ?_ _)) hs8 (by first|exact Nat.le_refl _|(simp;done));have k8:=HS7.out _ h78;have H8:=ns (BT hown8 h78);clear hown8 hs8)
         |(refine jR (by rfl) _ _ 22 5 (by rfl) Tryz.underlying22 _ 1 1 eE rfl (by decide) (by decide) w7.heap.size n0 _ (bC t0) (by rfl) H8.out.1 a0 n0 c0 (bC t0) (by rfl) hrw0.out.2.1 hrw0.out.2.2 (ar.no hrw0.out.1 h78) (zD t0) (by omega) h78.size ?_;intro A2 C2 w9 hown9 hs9 _;have h79:=h78.fresh hs9 (fun b e=>(World.ownsRow.lt H8.out.1 b e).1);have k9:=HS7.out _ h79;have H9:=ns (BT hown9 h79);clear hown9 hs9))
       all_goals
        go_wp2_with fail;go_meet;refine⟨t0++t0,?_,by rw [List.length_append,HQ.out.1];omega,by rw [HQ.out.2.2.2.2.1];exact KB (HQ.out.2.2.2.2.2.1 _ (List.mem_cons_self ..)) HPP.out.1 HPP.out.2,H9.out.2⟩;show World.ownsRow _ _ 5 1 _ (t0++t0).length ((t0++t0).map aM);rw [List.length_append,List.map_append,HQ.out.1];exact H9.out.1
      ·obtain⟨L,hLe⟩:=Iu (t0::t1::mr.map (·.t));have hLl:L.length=nm:=by rw [←hLe,←HM.out];simp
       have HLe:=ns (BT hLe hLl);clear hLe hLl;go_wp2_with fail
       go_loopw [11,12] (fun ov iv wr=>∃ j:Nat,j≤nm∧iv=.int .i64 (j:Int)∧ay wr w7.heap.size ov (L.take j).flatten∧Sm No w7 wr) (fun _ iv _=>nm-(intOf iv).toNat)
       case atStart=>exact⟨0,Nat.zero_le _,rfl,ay.nil _ _,Sm.refl _ _⟩
       case round=>
        obtain⟨j,hj,rfl,hO,hsj⟩:=hrel;have hfl:(L.take j).flatten.length≤4001 * 65536:=by
         refine Nat.le_trans (Kc (c:=65536) _ (fun a ha=>HQ.out.2.2.2.2.2.2 a (by rw [HLe.out.1];exact List.mem_of_mem_take ha))) (Nat.mul_le_mul ?_ (Nat.le_refl _));rw [List.length_take];omega
        have HO:=ns (BT hO (BT hsj hfl));have hBj:w7.heap.size≤wr.heap.size:=hsj.size;by_cases hlt:j < nm
        ·have hjm:j < (({t:=t0,a:=a0,c:=c0}:mL):: {t:=t1,a:=a1,c:=c1}::mr).length:=by rw [HM.out];exact hlt
         obtain⟨x,hx⟩:∃ x:mL,(({t:=t0,a:=a0,c:=c0}:mL):: {t:=t1,a:=a1,c:=c1}::mr)[j]=x:=⟨_,rfl⟩;obtain⟨_,_,hA1,hbj,rj⟩:=D1 (H4.out.2.2.2.1.no (H6.out.2.2.tt (H7.out.trans hsj (fun _ _ e=>e)))) hjm;injection hA1 with hA1;injection hA1 with e1 e2;subst e1 e2;have hmi:=(H4.out.2.1.ok _ (List.getElem_mem hjm)).sm (H6.out.2.2.tt (H7.out.trans hsj (fun _ _ e=>e))) (fun _ _ e=>e);rw [hx] at rj hmi;have hLj:L[j]?=some x.t:=by
          have e:=congrArg (Option.map mL.t) (List.getElem?_eq_getElem hjm);rw [hx,←List.getElem?_map] at e;rw [←HLe.out.1];exact e
         have hxl:x.t.length≤65536:=HQ.out.2.2.2.2.2.2 _ (by rw [HLe.out.1];exact List.mem_of_getElem? hLj);obtain⟨xt,xa,xc⟩:=x;dsimp only at rj hmi hLj hxl;obtain⟨nx,hnx⟩:∃ n,xt.length=n:=⟨_,rfl⟩;have rJ:wr.cell? ⟨bb,off+j,none⟩=some (.slice xa nx xc):=by rw [←hnx];exact rj
         have hMn:xa=none→nx=0∧xc=0:=fun e=>by have h:=hmi.n e;rw [←hnx];exact h
         have HJ:=ns (BT hLj (BT hnx (BT hmi.r hMn)));rw [hnx] at hxl;have w1:(j:Int) < (nm:Int):=by omega
         have w0:(0:Int)≤(j:Int):=by omega
         clear rj hmi hLj hnx hMn hx hO hsj hfl;go_wp2_with (refine Ja rfl _ _ 22 5 rfl Tryz.underlying22 _ eE rfl w7.heap.size _ u11 _ rfl HO.out.1 xa nx xc (bC xt) rfl HJ.out.2.2.2 (by rw [AK,HJ.out.2.1]) HJ.out.2.2.1 (zD xt) (by have:=HO.out.2.2;omega) hBj ?_;intro v8 w8 hown8 hs8;refine RowKit.Hid.out ?_);refine ns ?_;have h78:Sm No w7 w8:=HO.out.2.1.fresh hs8 (fun b e=>(World.ownsRow.lt HO.out.1 b e).1);have hO8:ay w8 w7.heap.size v8 (L.take (j+1)).flatten:=by
          rw [List.take_add_one,HJ.out.1];show World.ownsRow _ _ 5 1 _ _ _;rw [Option.toList_some,List.flatten_append,List.flatten_singleton,List.length_append,List.map_append,HJ.out.2.1];exact hown8
         have H8:=ns (BT hO8 h78);clear hown8 hs8 h78 hO8;go_wp2_with fail;exact⟨⟨j+1,by omega,by go_num,H8.out.1,H8.out.2⟩,by simp [intOf];omega⟩
        ·obtain rfl:j=nm:=by omega
         have xa:=hsj.cell hb7 s0;clear hO hsj hfl;go_wp2_with (refine Ja rfl _ _ 22 5 rfl Tryz.underlying22 _ eE rfl w7.heap.size _ u11 _ rfl HO.out.1 a0 n0 c0 (bC t0) rfl hrw0.out.2.1 (by rw [hrw0.out.2.2,Nat.mul_one]) (hrw0.out.1.no HO.out.2.1) (zD t0) (by have:=HO.out.2.2;omega) hBj ?_;intro v8 w8 hown8 hs8;refine RowKit.Hid.out ?_);refine ns ?_;have h78:Sm No w7 w8:=HO.out.2.1.fresh hs8 (fun b e=>(World.ownsRow.lt HO.out.1 b e).1);have hLt:(L.take j).flatten=L.flatten:=by rw [List.take_of_length_le (by rw [HLe.out.2];exact Nat.le_refl _)]
         have H8:=ns (BT hown8 (BT h78 hLt));clear hown8 hs8 h78 hLt;go_wp2_with fail;go_meet;refine⟨L.flatten++t0,?_,?_,?_,H8.out.2.1⟩
         ·have h:=H8.out.1;rw [H8.out.2.2] at h;show World.ownsRow _ _ 5 1 _ _ _;rw [List.length_append,List.map_append,HQ.out.1];exact h
         ·have h:=HO.out.2.2;rw [H8.out.2.2] at h;rw [List.length_append,HQ.out.1];omega
         ·rw [HQ.out.2.2.2.2.1,←HLe.out.1];exact Kx HQ.out.2.2.2.2.2.1 HPP.out.1 HPP.out.2
     case rest=>
      obtain⟨out,hO,hol,hml,hs8⟩:=hcut;have h38:Sm No w3 wc:=H4.out.2.2.1.tt (H6.out.2.2.trans (H7.out.trans hs8 (fun _ _ e=>e)) (fun _ _ e=>e));have HMay:=ns (HLC.out.may wc (H3.out.1.tt h38) _ u11 out (Jm.of hO) (fun x e=>(World.ownsRow.lt hO x e).2) (by omega));rw [Jl,HNB.out,hml] at HMay;have HC:=ns (H3.out.2.1.sm h38 (fun e=>e));have H58:=ns (H6.out.1.tt (H7.out.trans hs8 (fun _ _ e=>e)));have HW8:=ns (H6.out.2.1.tt (H7.out.trans hs8 (fun _ _ e=>e)));clear hO hol hml hs8 h38;go_wp2_with (refine bF rfl 25 _ rfl Tryz.underlying25 16 js _ rfl _ HC.out rfl ?_);refine HMay.out.mono ?_;rintro e w9 ⟨rfl,hs9⟩;have HKn:=ns (H5.out.2.2 w9 (H58.out.tt hs9));have HW9:=ns (HW8.out.tt hs9);clear hs9;go_wp2_with fail;refine HKn.out.mono ?_;rintro e w10 ⟨rfl,hs10⟩;have HW10:=ns (HW9.out.tt hs10);clear hs10;go_wp2_with fail;go_ret;exact⟨rfl,HW10.out⟩
end Go.Proofs.YtcflkcbogofgbaaGreatDoor
