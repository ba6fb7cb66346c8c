import Derived.Test.YtadcjgopaadfjaaGreatDoorQO
import Derived.Test.YtadcjgopaadfjaaGreatDoorQA
import Derived.Test.YtadcjgopaadfjaaGreatDoorQL
import Derived.Test.YtadcjgopaadfjaaGreatDoorQH
import Derived.Deep.AppendLies
import Derived.BigQuiet
import Derived.Deep.QuietTactic
import Derived.Test.YtadcjgopaadfjaaGreatDoorQX
import Derived.Test.YtadcjgopaadfjaaGreatDoorQY
import Derived.Test.YtadcjgopaadfjaaGreatDoorQR
set_option maxHeartbeats 16000000
set_option maxRecDepth 100000
namespace Go.Proofs.YtadcjgopaadfjaaGreatDoor
open Go.RowKit Go.Proofs
theorem jR(g o k:Nat):(⟨g,o,none⟩:Addr).add k=⟨g,o+k,none⟩:=by unfold Addr.add;split<;>simp_all
def aR(w:World)(e:TypeId)(size:Nat)(v:Value)(n:Nat)(xs:List Value):Prop:=
 xs.length=n * size∧((v=.slice none 0 0∧n=0)∨
  ∃ g off cap cur,v=.slice (some ⟨g,off,none⟩) n cap∧w.heap[g]?=some (.cells cur e (0,0))∧n≤cap∧cap≤maxLen∧off+cap * size≤cur.size∧(cur.toList.drop off).take (n * size)=xs)
section
variable {S:Nat→Prop} {w w':World} {B size n:Nat} {t:TypeId} {v:Value} {xs:List Value}
theorem aR.of(h:w.ownsRow B t size v n xs):aR w t size v n xs:=by
 refine⟨h.1,?_⟩;rcases h.2 with h2|⟨g,cap,cur,hv,hb,hg,h3,h4,h5,h6⟩
 ·exact Or.inl h2
 ·exact Or.inr ⟨g,0,cap,cur,hv,hg,h3,h4,by omega,by rw [List.drop_zero];exact h6⟩
theorem aR.nil(w:World)(t:TypeId)(size:Nat):aR w t size (.slice none 0 0) 0 []:=⟨by rw [Nat.zero_mul];rfl,Or.inl ⟨rfl,rfl⟩⟩
theorem aR.sm(h:aR w t size v n xs)(hs:Sm S w w')(hS:∀ b,v.ownBlock=some b→¬S b):aR w' t size v n xs:=by
 obtain⟨h1,h2⟩:=h;refine⟨h1,?_⟩;rcases h2 with h2|⟨g,off,cap,cur,hv,hh,r⟩
 ·exact Or.inl h2
 ·refine Or.inr ⟨g,off,cap,cur,hv,?_,r⟩;rw [hs.block g (Array.getElem?_eq_some_iff.1 hh).1 (hS g (by rw [hv];rfl))];exact hh
theorem aR.no(h:aR w t size v n xs)(hs:Sm No w w'):aR w' t size v n xs:=h.sm hs (fun _ _ e=>e)
theorem aR.lt(h:aR w t size v n xs):∀ b,v.ownBlock=some b→b < w.heap.size:=by
 intro b hb;rcases h.2 with ⟨h1,h2⟩|⟨g,off,cap,cur,hv,hh,r⟩
 ·rw [h1] at hb;cases hb
 ·subst hv;injection hb with hb;have hb:g=b:=hb;subst hb;exact(Array.getElem?_eq_some_iff.1 hh).1
theorem aR.cells(h:aR w t size v n xs):(v=.slice none 0 0∧n=0∧xs=[])∨∃ g off cap,v=.slice (some ⟨g,off,none⟩) n cap∧g < w.heap.size∧n≤cap∧cap≤maxLen∧(∀ j u,xs[j]?=some u→w.cell? ⟨g,off+j,none⟩=some u)∧∀ j,w.frozen? ⟨g,j,none⟩=false:=by
 rcases h.2 with ⟨h1,h2⟩|⟨g,off,cap,cur,hv,hh,hc,hm,hcs,htk⟩
 ·refine Or.inl ⟨h1,h2,?_⟩;have:=h.1;rw [h2,Nat.zero_mul] at this;exact List.eq_nil_of_length_eq_zero this
 ·refine Or.inr ⟨g,off,cap,hv,(Array.getElem?_eq_some_iff.1 hh).1,hc,hm,fun j u hu=> ?_,fun j=>by simp [World.frozen?,hh]⟩;rw [cell_of_row w g (off+j) cur t (0,0) hh];rw [←htk,List.getElem?_take] at hu;split at hu
  ·rw [List.getElem?_drop] at hu;simpa using hu
  ·cases hu
theorem aR.row(h:aR w t size v n xs):∃ A c,v=.slice A n c∧ax w A xs∧n≤c∧(A=none→n=0∧c=0):=by
 rcases h.cells with ⟨rfl,rfl,rfl⟩|⟨g,off,cap,rfl,hb,hc,_,hx,_⟩
 ·exact⟨none,0,rfl,ax.nil _ _,Nat.le_refl _,fun _=>⟨rfl,rfl⟩⟩
 ·exact⟨_,_,rfl,fun j u hj=>⟨g,off,rfl,hb,hx j u hj⟩,hc,fun h=>by cases h⟩
theorem aR.cut{g off cap:Nat}(h:aR w t size (.slice (some ⟨g,off,none⟩) n cap) n xs)(k:Nat)(hk:k≤n):aR w t size (.slice (some ⟨g,off+k * size,none⟩) (n-k) (cap-k)) (n-k) (xs.drop (k * size)):=by
 obtain⟨h1,h2⟩:=h;have hm:(n-k) * size=n * size-k * size:=Nat.sub_mul n k size;have hkm:k * size≤n * size:=Nat.mul_le_mul_right _ hk;refine⟨by rw [List.length_drop,h1,hm],Or.inr ?_⟩;rcases h2 with ⟨e,_⟩|⟨g',off',cap',cur,hv,hh,hc,hmx,hcs,htk⟩
 ·cases e
 ·injection hv with e1 e2 e3;injection e1 with e1;injection e1 with e1 e4;subst e1 e3 e4;have hm2:(cap-k) * size=cap * size-k * size:=Nat.sub_mul cap k size;have hck:k * size≤cap * size:=Nat.mul_le_mul_right _ (Nat.le_trans hk hc);refine⟨g,off+k * size,cap-k,cur,rfl,hh,by omega,by omega,by omega,?_⟩;rw [←htk,List.drop_take,List.drop_drop,hm]
theorem aR.setAt{g off cap:Nat}(h:aR w t size (.slice (some ⟨g,off,none⟩) n cap) n xs)(i:Nat)(hi:i < n * size)(u:Value):aR (w.setCell ⟨g,off+i,none⟩ u) t size (.slice (some ⟨g,off,none⟩) n cap) n (xs.set i u):=by
 rcases h.2 with ⟨e,_⟩|⟨g',off',cap',cur,hv,hh,hc,hmx,hcs,htk⟩
 ·cases e
 ·injection hv with e1 e2 e3;injection e1 with e1;injection e1 with e1 e4;subst e1 e3 e4;refine⟨by rw [List.length_set];exact h.1,Or.inr ⟨g,off,cap,cur.setIfInBounds (off+i) u,rfl,?_,hc,hmx,by simpa using hcs,?_⟩⟩
  ·simp [World.setCell,Array.getElem?_modify,hh]
  ·rw [Array.toList_setIfInBounds,←htk];have hle:n * size≤cap * size:=Nat.mul_le_mul_right _ hc;apply List.ext_getElem?;intro j;simp only [List.getElem?_take,List.getElem?_drop,List.getElem?_set,List.length_take,List.length_drop,Array.length_toList];by_cases hj:j < n * size
   ·simp only [hj,if_true];by_cases hij:i=j
    ·simp only [hij,if_true];rw [if_pos (by omega),if_pos (by omega)]
    ·rw [if_neg (by omega),if_neg hij]
   ·rw [if_neg hj];by_cases hij:i=j
    ·omega
    ·simp [hij,hj]
end
section
variable {P:Program} (w:World)
theorem ll (t ty e:TypeId) (i:TypeInfo) (ht:P.underlying t=some (.slice e)) (hi:P.info? e=some i)
 (g off sLen sCap:Nat) (cur:Array Value) (hg:w.heap[g]?=some (.cells cur e (0,0)))
 (a:Addr) (m c:Nat) (news:List Value) (hl:news.length=m * i.size) (hnews:∀ j u,news[j]?=some u→w.cell? (a.add j)=some u) (h1:∀ u∈news,u.oneCell'=true)
 (hroom:sLen+m≤sCap) (hfit:off+sLen * i.size+news.length≤cur.size):
 (Builtin.append_ #[t,t] ty #[.slice (some ⟨g,off,none⟩) sLen sCap,.slice (some a) m c]).run P w=
  .ok (.slice (some ⟨g,off,none⟩) (sLen+m) sCap) (w.setRow g (cur.toList.take (off+sLen * i.size)++news++cur.toList.drop (off+sLen * i.size+news.length)).toArray):=by
 have hf:=run_firstCells_some (P:=P) w i.size m a m c news hl hnews;have hst:(storeCells ⟨g,off+sLen * i.size,none⟩ news 0).run P w=.ok () (w.setRow g (cur.toList.take (off+sLen * i.size+0)++news++cur.toList.drop (off+sLen * i.size+0+news.length)).toArray):=
  run_storeCells_atF P g (off+sLen * i.size) e (0,0) news 0 cur w hg (by show 0≤_;omega) (by simpa using hfit) h1
 simp only [Nat.add_zero] at hst;simp [Builtin.append_,run_underlying ht,sizeOf,typeInfo,hi,Builtin.lenOf,hroom,hf,jR,hst]
theorem kw (t ty e:TypeId) (i:TypeInfo) (z:Value) (size bytes:Nat) (ht:P.underlying t=some (.slice e)) (hi:P.info? e=some i) (hz:i.zero=some z)
 (hsize:i.size=size) (hby:i.bytes=bytes) (hzs:z.cells.size=size) (hsz:0 < size)
 (v:Value) (n:Nat) (xs:List Value) (hown:aR w e size v n xs)
 (a:Addr) (m c:Nat) (news:List Value) (hl:news.length=m * size) (hnews:∀ j u,news[j]?=some u→w.cell? (a.add j)=some u) (h1:∀ u∈news,u.oneCell'=true)
 (h63:n+m≤maxLen) (hbytes:(n+m) * bytes≤140737488355328):
 ∃ v' w',(Builtin.append_ #[t,t] ty #[v,.slice (some a) m c]).run P w=.ok v' w'∧aR w' e size v' (n+m) (xs++news)∧w.grownBy w' v.ownBlock∧(v'.ownBlock=v.ownBlock∨v'.ownBlock=some w.heap.size):=by
 rcases hown.2 with ⟨rfl,rfl⟩|⟨g,off,cap,cur,rfl,hg,hnc,hcm,hcs,htake⟩
 ·obtain⟨v',w',g1,g2,g3,g4,g5⟩:=run_append_own_at (P:=P) w 0 t ty e i z size bytes ht hi hz hsize hby hzs hsz (.slice none 0 0) 0 xs ⟨hown.1,Or.inl ⟨rfl,rfl⟩⟩ a m c news hl hnews h1 h63 hbytes (Nat.zero_le _);exact⟨v',w',g1,aR.of g2,g3,g5⟩
 ·subst hsize;subst hby;have hsmall:n+m≤9223372036854775807:=by simp only [maxLen] at h63;omega
  have hlen:(xs++news).length=(n+m) * i.size:=by rw [List.length_append,hown.1,hl,Nat.add_mul]
  by_cases hroom:n+m≤cap
  ·have hmm:(n+m) * i.size≤cap * i.size:=Nat.mul_le_mul_right _ hroom;have hfit:off+n * i.size+news.length≤cur.size:=by rw [hl];rw [Nat.add_mul] at hmm;omega
   have hr:=ll (P:=P) w t ty e i ht hi g off n cap cur hg a m c news hl hnews h1 hroom hfit;have hz2:(cur.toList.take (off+n * i.size)++news++cur.toList.drop (off+n * i.size+news.length)).toArray.size=cur.size:=by
    simp only [List.size_toArray,List.length_append,List.length_take,List.length_drop,Array.length_toList];omega
   refine⟨_,_,hr,⟨hlen,.inr ⟨g,off,cap,_,rfl,setRow_heap w g cur _ e _ hg,hroom,hcm,by rw [hz2];exact hcs,?_⟩⟩,⟨rfl,rfl,rfl,by simp,fun k _ hk=>setRow_other w g k _ (fun e=>hk (by simp [Value.ownBlock,e]))⟩,Or.inl rfl⟩;have e1:cur.toList.take (off+n * i.size)=cur.toList.take off++xs:=by rw [List.take_add,htake]
   have e2:(cur.toList.take off).length=off:=by rw [List.length_take,Array.length_toList];omega
   rw [List.toList_toArray,e1,List.append_assoc,List.append_assoc,List.drop_append_of_le_length (by omega),List.drop_eq_nil_of_le (by omega),List.nil_append,←List.append_assoc,←hlen];exact List.take_left
  ·have holds:∀ j u,xs[j]?=some u→w.cell? ((⟨g,off,none⟩:Addr).add j)=some u:=fun j u hu=>by
    rw [jR];rcases hown.cells with ⟨e,_⟩|⟨g',off',cap',e,_,_,_,hx,_⟩
    ·cases e
    ·injection e with e1;injection e1 with e1;injection e1 with e1 e2;subst e1 e2;exact hx j u hu
   have hr:=run_append_grow (P:=P) w t ty e i z ht hi hz ⟨g,off,none⟩ n cap xs hown.1 holds a m c news hl hnews (by omega) (by omega) (growslice_fits (by omega) hbytes);have hge:=grownCap_ge w (n+m) cap e;have hcm2:grownCap w (n+m) cap e≤maxLen:=grownCap_le_maxLen w (n+m) cap e h63;refine⟨_,_,hr,⟨hlen,.inr ⟨w.heap.size,0,_,_,rfl,heap_alloc_new w.drew _,hge,hcm2,?_,?_⟩⟩,⟨rfl,rfl,rfl,by simp,fun k hk _=>Below.heap_alloc w.drew _ k hk⟩,Or.inr rfl⟩
   ·refine Nat.le_of_eq ?_;simp only [Array.size_append,List.size_toArray,size_zeroCells,hzs,hown.1,hl,←Nat.add_mul,Nat.zero_add];congr 1;omega
   ·simp only [Array.toList_append,List.append_assoc,List.drop_zero];rw [←List.append_assoc,←hlen];exact List.take_left
end
section
variable {P:Program} {ops:Array Oper} {rest:List Oper} {o:Oper} {a:Act} {w:World} {Q:Exit→Act→World→Prop}
theorem qf (hgd:o.guard=none) (s x:Operand) (st t:TypeId)
 (ho:o.op=.call {callee:=.builtin .append,args:=#[s,x],argTypes:=#[st,st]}) (ht:P.underlying st=some (.slice t))
 (z:Value) (size bytes:Nat) (hi:(P.info? t).map (fun i=>(i.zero,i.size,i.bytes))=some (some z,size,bytes)) (hzs:z.cells.size=size) (hsz:0 < size) (hby:bytes≤1000)
 (n:Nat) (v:Value) (xs:List Value) (hs:a.eval s=v) (hown:aR w t size v n xs)
 (ad:Addr) (m c:Nat) (news:List Value) (hx:a.eval x=.slice (some ad) m c) (hl:news.length=m * size) (hrow:ax w (some ad) news) (h1:∀ u∈news,u.oneCell'=true) (hn:n+m≤1000001)
 (h:∀ v' w',aR w' t size v' (n+m) (xs++news)→Sm (fun b=>v.ownBlock=some b) w w'→(v'.ownBlock=v.ownBlock∨v'.ownBlock=some w.heap.size)→wpList P ops Q rest (a.put o.dst v') w'):wpList P ops Q (o::rest) a w:=by
 obtain⟨i0,hi0,hz0,hz1,hz2⟩:=info_parts hi;refine wpList_plain hgd fun K hK=> ?_;obtain⟨v',w',hr,h2,h3,h5⟩:=kw (P:=P) w st o.type t i0 z size bytes ht hi0 hz0 hz1 hz2 hzs hsz v n xs hown ad m c news hl (hrow.news rfl) h1 (by unfold maxLen;omega)
  (by have:(n+m) * bytes≤1000001 * 1000:=Nat.mul_le_mul (by omega) hby
      omega)
 unfold Oper.wp execOp;simp only [ho,resolve,invoke,builtin,Sem.run_bind,Sem.run_pure,Result.andThen_ok,List.map_toArray,List.map_cons,List.map_nil,hs,hx,hr];exact hK _ _ (h v' w' h2 ((Sm.refl _ w).grown h3 (fun k hk=>Or.inl hk)) h5)
theorem vu {E:Prop} {K:Act→World→Prop} (hgd:o.guard=none) (s x:Operand) (st t:TypeId)
 (ho:o.op=.call {callee:=.builtin .append,args:=#[s,x],argTypes:=#[st,st]}) (ht:P.underlying st=some (.slice t))
 (z:Value) (size bytes:Nat) (hi:(P.info? t).map (fun i=>(i.zero,i.size,i.bytes))=some (some z,size,bytes)) (hzs:z.cells.size=size) (hsz:0 < size) (hby:bytes≤1000)
 (n:Nat) (v:Value) (xs:List Value) (hs:a.eval s=v) (hown:aR w t size v n xs)
 (g:Nat) (cs:Array Value) (hx:a.eval x=.slice (some ⟨g,0,none⟩) 1 1) {tt:TypeId} (hb:Bk w g tt cs) (hcs:cs.size=size) (h1:∀ u∈cs.toList,u.oneCell'=true) (hn:n≤1000000)
 (h:∀ A cap w',aR w' t size (.slice A (n+1) cap) (n+1) (xs++cs.toList)→Sm (fun b=>v.ownBlock=some b) w w'→((Value.slice A (n+1) cap).ownBlock=v.ownBlock∨(Value.slice A (n+1) cap).ownBlock=some w.heap.size)→K (a.put o.dst (.slice A (n+1) cap)) w'):
 if Region.wanted o (yielded ops a.tmps)=true then Oper.wp P o a w K Q else E:=by
 have hw:Region.wanted o (yielded ops a.tmps)=true:=by simp [Region.wanted,hgd]
 rw [if_pos hw];obtain⟨i0,hi0,hz0,hz1,hz2⟩:=info_parts hi;obtain⟨v',w',hr,h2,h3,h5⟩:=kw (P:=P) w st o.type t i0 z size bytes ht hi0 hz0 hz1 hz2 hzs hsz v n xs hown ⟨g,0,none⟩ 1 1 cs.toList (by simp [hcs]) (fun j u hj=>by rw [jR,Nat.zero_add];exact hb.at j (by simpa using hj)) h1 (by unfold maxLen;omega)
  (by have:(n+1) * bytes≤1000001 * 1000:=Nat.mul_le_mul (by omega) hby
      omega)
 obtain⟨A,cap,rfl, -⟩:=h2.row;unfold Oper.wp execOp;simp only [ho,resolve,invoke,builtin,Sem.run_bind,Sem.run_pure,Result.andThen_ok,List.map_toArray,List.map_cons,List.map_nil,hs,hx,hr];exact h A cap w' h2 ((Sm.refl _ w).grown h3 (fun k hk=>Or.inl hk)) h5
end
theorem Sm.hold{S:Nat→Prop}{w w':World}(h:Sm S w w'){b o:Nat}(hb:b < w.heap.size)(hn:¬S b){v:Value}(hc:w.cell? ⟨b,o,none⟩=some v):w'.cell? ⟨b,o,none⟩=some v:=
 (World.cell?_of_block (w:=w) (a:=⟨b,o,none⟩) (h.block b hb hn)).trans hc
def oO(n f i:Nat):Nat:=if f+i < n then f+i else f+i-n
theorem DK{n f i:Nat}(hf:f < n)(hi:i≤n):(f+i) % n=oO n f i:=by
 unfold oO;split
 ·rename_i h;exact Nat.mod_eq_of_lt h
 ·rename_i h
  rw [Nat.mod_eq_sub_mod (by omega),Nat.mod_eq_of_lt (by omega)]
theorem Ec{n f i:Nat}(hf:f < n)(hi:i≤n):Int.tmod ((f:Int)+(i:Int)) (n:Int)=(oO n f i:Int):=by
 rw [←DK hf hi,←Int.natCast_add];exact Int.ofNat_tmod _ _
theorem mO{n f i:Nat}(hf:f < n)(hi:i≤n):oO n f i < n:=by unfold oO;split<;>omega
structure jo (n:Nat) (M:List UInt8) (f:Nat) (L:List UInt8):Prop where
 m:M.length=n
 fn:f < n
 le:L.length≤n
 at':∀ i c,L[i]?=some c→M[oO n f i]?=some c
theorem jo.put{n f:Nat}{M L:List UInt8}(h:jo n M f L)(hl:L.length < n)(c:UInt8):jo n (M.set (oO n f L.length) c) f (L++[c]):=by
 refine⟨by rw [List.length_set];exact h.m,h.fn,by rw [List.length_append,List.length_singleton];omega,fun i d hi=> ?_⟩;have hf:=h.fn;have hm:=h.m;have hlt:i < L.length+1:=by have:=(List.getElem?_eq_some_iff.1 hi).1;rwa [List.length_append,List.length_singleton] at this
 by_cases e:i=L.length
 ·subst e;rw [List.getElem?_append_right (Nat.le_refl _),Nat.sub_self] at hi;rw [List.getElem?_set_self (by rw [hm];exact mO hf (by omega))];exact hi
 ·rw [List.getElem?_append_left (by omega)] at hi;rw [List.getElem?_set_ne (by unfold oO;split<;>split<;>omega)];exact h.at' i d hi
theorem jo.drop{n f:Nat}{M L:List UInt8}(h:jo n M f L)(k:Nat)(hk:k≤L.length):jo n M (oO n f k) (L.drop k):=by
 have hf:=h.fn;have hle:=h.le;refine⟨h.m,mO hf (by omega),by rw [List.length_drop];omega,fun i c hi=> ?_⟩;rw [List.getElem?_drop] at hi;have hlt:=(List.getElem?_eq_some_iff.1 hi).1;rw [show oO n (oO n f k) i=oO n f (k+i) from by unfold oO;split<;>split<;>split<;>omega];exact h.at' _ c hi
theorem jo.new(n:Nat)(hn:0 < n):jo n (List.replicate n 0) 0 []:=⟨List.length_replicate ..,hn,Nat.zero_le _,fun i c h=>by cases h⟩
def Du(w:World)(g gb n f:Nat)(M:List UInt8)(L:ah):Prop:=Bk w g 110 #[.slice (some ⟨gb,0,none⟩) n n,.int .i64 (f:Int),.int .i64 (L.length:Int)]∧By w gb M∧jo n M f L∧g≠gb
def cA(w:World)(O:Nat→Prop)(g n:Nat)(L:ah):Prop:=∃ gb f M,Du w g gb n f M L∧O g∧O gb∧n≤65536
section
variable {w w':World} {S O P:Nat→Prop} {g gb n f:Nat} {M:List UInt8} {L:ah}
theorem Du.sm(h:Du w g gb n f M L)(hs:Sm S w w')(h1:¬S g)(h2:¬S gb):Du w' g gb n f M L:=⟨h.1.sm hs h1,h.2.1.sm hs h2,h.2.2⟩
theorem cA.sm(h:cA w O g n L)(hs:Sm S w w')(hS:∀ x,O x→¬S x):cA w' O g n L:=by
 obtain⟨gb,f,M,h1,h2,h3,h4⟩:=h;exact⟨gb,f,M,h1.sm hs (hS _ h2) (hS _ h3),h2,h3,h4⟩
theorem cA.no(h:cA w O g n L)(hs:Sm No w w'):cA w' O g n L:=h.sm hs (fun _ _ e=>e)
theorem cA.le(h:cA w O g n L):L.length≤n∧n≤65536∧0 < n:=by
 obtain⟨gb,f,M,⟨_,_,h1,_⟩,_,_,h4⟩:=h;have:=h1.fn;exact⟨h1.le,h4,by omega⟩
end
theorem ew(w:World)(g gb n f:Nat)(M:List UInt8)(L:ah)(h:Du w g gb n f M L):Calls Tryz.prog 69 #[.pointer (some ⟨g,0,none⟩)] w fun e w'=>e=.returned (.int .i64 (L.length:Int))∧w=w':=by
 have hgl:=h.1.lt;have hc:=h.1.at 2 (v:=.int .i64 (L.length:Int)) rfl;obtain⟨m,hm⟩:=ai L.length;rw [hm] at hc ⊢;clear h hm;go_in;go_wp2_with fail;go_ret;exact⟨rfl,rfl⟩
theorem uN(w:World)(g gb n f:Nat)(M:List UInt8)(L:ah)(h:Du w g gb n f M L)(hn:n≤65536):Calls Tryz.prog 47 #[.pointer (some ⟨g,0,none⟩)] w fun e w'=>e=.returned (.int .i64 ((n:Int)-(L.length:Int)))∧Sm No w w':=by
 have hgl:=h.1.lt;have hc:=h.1.at 2 (v:=.int .i64 (L.length:Int)) rfl;have h0:=h.1.at 0 (v:=.slice (some ⟨gb,0,none⟩) n n) rfl;have hle:=h.2.2.1.le;obtain⟨m,hm⟩:=ai L.length;rw [hm] at hc hle ⊢;have i1:IntKind.i64.wrap ((n:Int)-(m:Int))=(n:Int)-(m:Int):=IntWalk.i64_in _ (by omega);clear h hm;go_in;go_wp2_with fail;go_quiet (fail);go_wp2_with fail;go_ret;exact⟨rfl,(Sm.refl No w).drewN _⟩
theorem nC(w:World)(g gb n f:Nat)(M:List UInt8)(L:ah)(h:Du w g gb n f M L)(hn:n≤65536)(i:Nat)(hi:i≤n):Calls Tryz.prog 66 #[.pointer (some ⟨g,0,none⟩),.int .i64 (i:Int)] w fun e w'=>e=.returned (.int .i64 (oO n f i:Int))∧Sm No w w':=by
 have hgl:=h.1.lt;have hc:=h.1.at 1 (v:=.int .i64 (f:Int)) rfl;have h0:=h.1.at 0 (v:=.slice (some ⟨gb,0,none⟩) n n) rfl;have hf:=h.2.2.1.fn;have i1:IntKind.i64.wrap ((f:Int)+(i:Int))=(f:Int)+(i:Int):=IntWalk.i64_in _ (by omega);have i2:=Ec hf hi;have i3:(n:Int)≠0:=by omega
 have i4:((n:Int)==0)=false:=by simpa using i3
 have i5:=mO hf hi;have i6:IntKind.i64.wrap (oO n f i:Int)=(oO n f i:Int):=IntWalk.i64_in _ (by omega);clear h;go_in;go_wp2_with fail;go_quiet (fail);go_wp2_with fail;go_ret;exact⟨rfl,(Sm.refl No w).drewN _⟩
theorem yz{w:World}{B k:Nat}{v:Value}{L:ah}{c:UInt8}(h:w.ownsRow B 5 1 v (k+1) ((L.take k).map aU++[.int .u8 c.toNat]))(hc:L[k]?=some c):aG w B v (L.take (k+1)):=by
 have hk:=(List.getElem?_eq_some_iff.1 hc).1;unfold aG;rw [List.length_take,Nat.min_eq_left (by omega),List.take_add_one,hc,List.map_append];exact h
theorem wN(w:World)(g gb n f:Nat)(M:List UInt8)(L:ah)(h:Du w g gb n f M L)(hn:n≤65536):Calls Tryz.prog 99 #[.pointer (some ⟨g,0,none⟩),.int .i64 (L.length:Int)] w fun e w'=>∃ v,e=.returned v∧aG w' w.heap.size v L∧Sm No w w':=by
 have hle:=h.2.2.1.le;have HLen:=aa (ew w g gb n f M L h);have HAt:=aa (fun (W:World) (hs:Sm No w W) (k:Nat) (hk:k≤n)=>nC W g gb n f M L (h.sm hs (fun e=>e) (fun e=>e)) hn k hk);have H:=aa h;obtain⟨m,hm⟩:=ai L.length;rw [hm] at hle HLen ⊢;have HM:=aa hm;clear h hm;go_in;go_wp2_with fail;refine HLen.out.mono ?_;rintro e w1 ⟨rfl,rfl⟩;have hmin:min (m:Int) (m:Int)=(m:Int):=by omega
 go_wp2_with fail
 go_loopw [5,6,11] (fun bv _ cv wr=>∃ k,k≤m∧cv=.int .i64 (k:Int)∧aG wr w.heap.size bv (L.take k)∧Sm No w wr) (fun _ _ cv _=>m-(intOf cv).toNat)
 case atStart=>exact⟨0,Nat.zero_le _,rfl,World.ownsRow_nil _ _ _ _,Sm.refl _ _⟩
 case round=>
  obtain⟨k,hk,rfl,hO,hs⟩:=hrel;by_cases hlt:k < m
  ·have hkl:k < L.length:=by rw [HM.out];exact hlt
   obtain⟨c,hc⟩:∃ c,L[k]?=some c:=⟨_,List.getElem?_eq_getElem hkl⟩;have hV:=H.out.sm hs (fun e=>e) (fun e=>e);have c0:=hV.1.at 0 (v:=.slice (some ⟨gb,0,none⟩) n n) rfl;have hgl:=hV.1.lt;have r1:=hV.2.1.at (hV.2.2.1.at' k c hc);have hbl:=hV.2.1.1;have hx:=mO hV.2.2.1.fn (i:=k) (by omega);obtain⟨x,hxe⟩:=ai (oO n f k);have HA:=aa (HAt.out wr.drew hs.drew k (by omega));rw [hxe] at r1 hx HA;have k1:(k:Int) < (m:Int):=by omega
   have k2:(0:Int)≤(x:Int):=by omega
   have k3:(x:Int) < (n:Int):=by omega
   have HS:=aa (ab hO hs);have hkm:(L.take k).length=k:=by rw [List.length_take];omega
   have hO1:wr.ownsRow w.heap.size 5 1 u5 k ((L.take k).map aU):=by unfold aG at hO;rwa [hkm] at hO
   have HC:=aa (ab hc hkm);have HN:=aa (show (¬u5.ownBlock=some g)∧¬u5.ownBlock=some gb from⟨fun e=>by have:=(World.ownsRow.lt hO1 _ e).1;have:=H.out.1.lt;omega,fun e=>by have:=(World.ownsRow.lt hO1 _ e).1;have:=H.out.2.1.1;omega⟩);have HO:=aa (ab hO1 (ab H.out.1.lt H.out.2.1.1));have HW:=aa (show w.heap.size≤wr.heap.size from hs.size);clear hV hO hO1 hs hxe hc hkl hkm;go_wp2_with fail
   go_region_held3 (fun w'=>w'.cell? ⟨g,0,none⟩=some (.slice (some ⟨gb,0,none⟩) n n)∧w'.cell? ⟨gb,x,none⟩=some (.int .u8 c.toNat)) (first|exact⟨c0,r1⟩|exact⟨d0,s1⟩|exact⟨d1,s2⟩|exact⟨e0,t1⟩)
    ((first
      |(go_at_call 66;refine HA.out.mono ?_;rintro e w4 ⟨rfl,hs4⟩;have d0:=hs4.cell hgl c0;have s1:=hs4.cell hbl r1;have hgl4:=Nat.lt_of_lt_of_le hgl hs4.size;have hbl4:=Nat.lt_of_lt_of_le hbl hs4.size;have d1:=((Sm.refl No w4).alloc (.cells #[.int .u8 c.toNat] 5)).cell hgl4 d0;have s2:=((Sm.refl No w4).alloc (.cells #[.int .u8 c.toNat] 5)).cell hbl4 s1;have H4:=aa hs4;clear hs4)
      |(refine gk (by rfl) _ _ 34 5 (by rfl) Tryz.underlying34 _ 1 1 fC rfl (by decide) (by decide) w.heap.size k _ ((L.take k).map aU) (by rfl) (ae HO.out.1.drew (H4.out.alloc (.cells #[.int .u8 c.toNat] 5)) (fun _ _ h=>h)) w4.heap.size #[.int .u8 c.toNat] (by rfl) (Bk.new w4 _ _) rfl (by simp [Value.oneCell']) (by omega) (Nat.le_trans (Nat.le_trans HW.out H4.out.size) ((Sm.refl No w4).alloc _).size) ?_;intro rr cap w6 hown6 hs6 hr6;have e0:=hs6.hold (by simp;omega) HN.out.1 (((Sm.refl No w4).alloc (.cells #[.int .u8 c.toNat] 5)).cell hgl4 d0);have t1:=hs6.hold (by simp;omega) HN.out.2 (((Sm.refl No w4).alloc (.cells #[.int .u8 c.toNat] 5)).cell hbl4 s1);have H6:=aa (ab hown6 (ab hs6 hr6));clear hown6 hs6 hr6)))
   all_goals
    have HF:=aa (HO.out.2.1);go_wp2_with fail;exact⟨⟨k+1,by omega,by go_num,yz H6.out.1 HC.out.1,((HS.out.2.drew.tt H4.out).alloc _).fresh H6.out.2.1 (fun b e=>(World.ownsRow.lt HO.out.1 b e).1)⟩,by simp [intOf];omega⟩
  ·obtain rfl:k=m:=by omega
   go_wp2_with fail;go_ret;refine⟨_,rfl,?_,hs⟩;rw [←List.take_of_length_le (l:=L) (i:=k) (by rw [HM.out];exact Nat.le_refl _)];exact hO
theorem uw(w:World)(O:Nat→Prop)(g n:Nat)(L:ah)(h:cA w O g n L)(k:Nat)(hk:k≤L.length):Calls Tryz.prog 97 #[.pointer (some ⟨g,0,none⟩),.int .i64 (k:Int)] w fun e w'=>e=.returned (.int .i64 (k:Int))∧cA w' O g n (L.drop k)∧Sm O w w':=by
 obtain⟨gb,f,M,hV,og,ob,hn⟩:=h;have hle:=hV.2.2.1.le;have HLen:=aa (ew w g gb n f M L hV);have H:=aa (ab hV (ab og (ab ob hn)));obtain⟨m,hm⟩:=ai L.length;rw [hm] at hle HLen hk;have HM:=aa hm;clear hV hm og ob;have hmin:min (k:Int) (m:Int)=(k:Int):=by omega
 have hmax:max (0:Int) (k:Int)=(k:Int):=by omega
 by_cases hk0:0 < k
 ·have k1:(0:Int) < (k:Int):=by omega
  have i1:IntKind.i64.wrap ((m:Int)-(k:Int))=(m:Int)-(k:Int):=IntWalk.i64_in _ (by omega);have HA1:=aa (nC w.drew g gb n f M L H.out.1 hn k (by omega));have c2:=H.out.1.1.at 2 (v:=.int .i64 (L.length:Int)) rfl;have c1:=H.out.1.1.at 1 (v:=.int .i64 (f:Int)) rfl;have z1:=H.out.1.1.fz 1;have z2:=H.out.1.1.fz 2;have hgl:=H.out.1.1.lt;rw [HM.out] at c2;go_in;go_wp2_with fail;refine HLen.out.mono ?_;rintro e w1 ⟨rfl,rfl⟩;go_wp2_with fail
  go_region_law
   (first
    |(go_simp;refine HA1.out.mono ?_;rintro e w4 ⟨rfl,hs4⟩;have hb4:=(Bk.drew H.out.1.1).sm hs4 (fun e=>e);have c24:=hs4.cell hgl c2;have c14:=hb4.at 1 (v:=.int .i64 (f:Int)) rfl;have z14:=hb4.fz 1;have z24:=hb4.fz 2;have hgl4:=hb4.lt;have H4:=aa (ab hs4 hb4);clear hs4 hb4)
    |fail)
  all_goals
   go_wp2_with fail;go_ret;have hs:Sm No w w4:=(Sm.refl No w).drew.tt H4.out.1;have h1:((m:Int)-(k:Int))=((L.drop k).length:Int):=by rw [List.length_drop,HM.out,Int.ofNat_sub hk]
   refine⟨rfl,⟨gb,oO n f k,M,⟨((H4.out.2.set 1 _).set 2 _).eq (by rw [h1];rfl),H.out.1.2.1.sm (((hs.any (fun x=>x=g)).set1 1 _).set1 2 _) (fun e=>H.out.1.2.2.2 e.symm),H.out.1.2.2.1.drop k (by rw [HM.out];exact hk),H.out.1.2.2.2⟩,H.out.2⟩,((hs.any O).setS H.out.2.1 1 _).setS H.out.2.1 2 _⟩
 ·obtain rfl:k=0:=by omega
  have k1:¬(0:Int) < ((0:Nat):Int):=by omega
  go_in;go_wp2_with fail;refine HLen.out.mono ?_;rintro e w1 ⟨rfl,rfl⟩;go_wp2_with fail;go_ret;exact⟨rfl,by rw [List.drop_zero];exact⟨gb,f,M,H.out⟩,Sm.refl _ _⟩
theorem xG{L:List UInt8}{k:Nat}{c:UInt8}(h:L[k]?=some c):L.take (k+1)=L.take k++[c]:=by rw [List.take_add_one,h];rfl
def GB(w0:World)(g gb n f:Nat)(L l:ah)(wr:World)(j:Nat):Prop:=∃ M,Du wr g gb n f M (L++l.take j)∧Sm (fun x=>x=g∨x=gb) w0 wr
theorem sn(w:World)(O:Nat→Prop)(g n rb:Nat)(L:ah)(h:cA w O g n L)(A:Option Addr)(cp:Nat)(l:ah)(hcell:w.cell? ⟨rb,0,none⟩=some (.slice A l.length cp))(hR:ax w A (l.map aU))(hA:∀ a,A=some a→l≠[]→¬O a.block)(hn0:A=none→l=[])(hl:l.length≤1000000)(hcp:l.length≤cp)(hcp2:cp≤9223372036854775807):
 Calls Tryz.prog 39 #[.pointer (some ⟨g,0,none⟩),.slice (some ⟨rb,0,none⟩) 1 1] w fun e w'=>e=.returned (.int .i64 ((min l.length (n-L.length):Nat):Int))∧cA w' O g n (L++l.take (n-L.length))∧Sm O w w':=by
 obtain⟨gb,f,M,hV,og,ob,hn⟩:=h;have hle:=hV.2.2.1.le;have H:=aa (ab hV (ab og (ab ob (ab hn (ab hR (ab hA hn0))))));have HOg:=aa (show ∀ x,(x=g∨x=gb)→O x from fun x e=>e.elim (fun e=>e ▸ og) (fun e=>e ▸ ob));have HRoom:=aa (uN w g gb n f M L hV hn);obtain⟨k,hk⟩:=ai (min l.length (n-L.length));have htk:l.take (n-L.length)=l.take k:=by rw [←hk];rcases Nat.le_total l.length (n-L.length) with e|e<;>simp [Nat.min_eq_left,Nat.min_eq_right,e,List.take_of_length_le]
 rw [hk,htk];have hkb:k≤l.length∧L.length+k≤n:=by omega
 obtain⟨m,hm⟩:=ai l.length;obtain⟨z,hz⟩:=ai L.length;rw [hm] at hk hkb hl hcp hcell;rw [hz] at hk hkb hle HRoom;have hmin:min (m:Int) ((n:Int)-(z:Int))=(k:Int):=by omega
 have HK:=aa (ab hm hz);clear hV og ob hR hA hn0 htk hm hz hk;have k1:(0:Int)≤(k:Int):=by omega
 have k2:(k:Int)≤(cp:Int):=by omega
 go_in;go_wp2_with fail
 go_loopw [5,12] (fun nv iv wr=>(iv=.int .i64 0∧nv=.int .i64 0∧wr=w)∨(iv=.int .i64 1∧nv=.int .i64 (k:Int)∧GB w g gb n f L l wr k)) (fun _ iv _=>1-(intOf iv).toNat)
 case atStart=>exact Or.inl ⟨rfl,rfl,rfl⟩
 case round=>
  rcases hrel with ⟨rfl,rfl,hwr⟩|⟨rfl,rfl,hW⟩
  ·obtain rfl:=hwr.symm;go_wp2_with fail;refine HRoom.out.mono ?_;rintro e w1 ⟨rfl,hs1⟩;go_wp2_with fail;have H1:=aa hs1;clear hs1
   go_loopw [25] (fun jv w2=>∃ j,j≤k∧jv=.int .i64 (j:Int)∧GB w g gb n f L l w2 j) (fun jv _=>k-(intOf jv).toNat)
   case atStart=>exact⟨0,Nat.zero_le _,rfl,M,by rw [List.take_zero,List.append_nil];exact H.out.1.sm H1.out (fun e=>e) (fun e=>e),H1.out.any _⟩
   case round=>
    obtain⟨j,hj,rfl,M2,hV2,hs2⟩:=hrel;by_cases hlt:j < k
    ·have hjl:j < l.length:=by rw [HK.out.1];omega
     obtain⟨c,hc⟩:∃ c,l[j]?=some c:=⟨_,List.getElem?_eq_getElem hjl⟩;have hle2:(L++l.take j).length=z+j:=by rw [List.length_append,List.length_take,HK.out.2];omega
     have hne:l≠[]:=fun e=>by rw [e] at hjl;exact absurd hjl (Nat.not_lt_zero _)
     obtain⟨bb,off,rfl,hbb,rj⟩:=(H.out.2.2.2.2.1.sm hs2 (fun a e e2=>H.out.2.2.2.2.2.1 a e hne (HOg.out _ e2))).at (j:=j) (u:=.int .u8 c.toNat) (by rw [List.getElem?_map,hc];rfl);have hput:=hV2.2.2.1.put (by rw [hle2];omega) c;rw [hle2] at hput;have hxl:=mO hV2.2.2.1.fn (i:=z+j) (by omega);have hgl:=hV2.1.lt;have hbl:=hV2.2.1.1;have HA1:=aa (nC wr.drew g gb n f M2 _ ⟨hV2.1,hV2.2.1,hV2.2.2⟩ hn (z+j) (by omega));have hset:=hV2.2.1.set (oO n f (z+j)) (by rw [hV2.2.2.1.m];exact hxl) c;obtain⟨x,hx⟩:=ai (oO n f (z+j));obtain⟨o,ho⟩:∃ o,M2[x]?=some o:=⟨_,List.getElem?_eq_getElem (by rw [hV2.2.2.1.m,←hx];exact hxl)⟩;obtain⟨y,hy⟩:=ai (z+j);rw [hx] at hput hxl HA1 hset;rw [hy] at hle2 HA1;have c0:=hV2.1.at 0 (v:=.slice (some ⟨gb,0,none⟩) n n) rfl;have c2:=hV2.1.at 2 (v:=.int .i64 ((L++l.take j).length:Int)) rfl;rw [hle2] at c2;have i1:IntKind.i64.wrap ((y:Int)+1)=(y:Int)+1:=IntWalk.i64_in _ (by omega);have k3:(j:Int) < (k:Int):=by omega
     have k4:(0:Int)≤(x:Int):=by omega
     have k5:(x:Int) < (n:Int):=by omega
     have HJ:=aa (ab hV2 (ab hs2 (ab hput (ab ho (ab hc (ab hle2 hy))))));clear hV2 hs2 hput hset hle2 hc ho hne hjl hx hy;go_wp2_with fail
     go_region_law
      (first
       |(go_simp;refine HA1.out.mono ?_;rintro e w4 ⟨rfl,hs4⟩;have hV4:=HJ.out.1.sm ((Sm.refl No wr).drew.tt hs4) (fun e=>e) (fun e=>e);have c04:=hs4.cell hgl c0;have x4:=hV4.2.1.at HJ.out.2.2.2.1;have y4:=hV4.2.1.fz (j:=x) (by rw [hV4.2.2.1.m];exact hxl);have hbl4:=hV4.2.1.1;have H4:=aa (ab hV4 hs4);clear hs4 hV4)
       |fail)
     all_goals
      obtain⟨w5,hw5⟩:=ai (w4.setCell ⟨gb,x,none⟩ (.int .u8 c.toNat));have hb5:Bk w5 g 110 #[.slice (some ⟨gb,0,none⟩) n n,.int .i64 (f:Int),.int .i64 (y:Int)]:=by rw [←hw5,←HJ.out.2.2.2.2.2.1];exact H4.out.1.1.far H4.out.1.2.2.2 _
      have hB5:By w5 gb (M2.set x c):=by rw [←hw5];exact H4.out.1.2.1.set x (by rw [H4.out.1.2.2.1.m];exact hxl) c
      have hs5:Sm (fun x=>x=g∨x=gb) w w5:=by rw [←hw5];exact((HJ.out.2.1.drew).trans H4.out.2 (fun _ _ e=>e.elim)).setS (Or.inr rfl) _ _
      rw [hw5];have c25:=hb5.at 2 (v:=.int .i64 (y:Int)) rfl;have z25:=hb5.fz 2;have hgl5:=hb5.lt;have H5:=aa (ab hb5 (ab hB5 hs5));clear hb5 hB5 hs5 hw5;go_wp2_with fail;refine⟨⟨j+1,by omega,by go_num,M2.set x c,⟨?_,?_,?_,HJ.out.1.2.2.2⟩,H5.out.2.2.setS (Or.inl rfl) _ _⟩,by simp [intOf];omega⟩
      ·rw [xG HJ.out.2.2.2.2.1];refine(H5.out.1.set 2 _).eq ?_;rw [←List.append_assoc,List.length_append,HJ.out.2.2.2.2.2.1];rfl
      ·exact H5.out.2.1.sm ((Sm.refl _ w5).set1 2 _) (fun e=>HJ.out.1.2.2.2 e.symm)
      ·rw [xG HJ.out.2.2.2.2.1,←List.append_assoc];exact HJ.out.2.2.1
    ·obtain rfl:j=k:=by omega
     have HW:=aa (show GB w g gb n f L l wr j from⟨M2,hV2,hs2⟩);go_wp2_with fail;exact⟨Or.inr ⟨rfl,rfl,HW.out⟩,by decide⟩
  ·have HW:=aa hW;clear hW;go_wp2_with fail;go_ret;obtain⟨M2,hV2,hs2⟩:=HW.out;exact⟨rfl,⟨gb,f,M2,hV2,H.out.2.1,H.out.2.2.1,hn⟩,hs2.mono (fun b _ e=>HOg.out b e)⟩
theorem zL(w:World)(n:Nat)(h1:1≤n)(h2:n≤65536):Calls Tryz.prog 33 #[.int .i64 (n:Int)] w fun e w'=>∃ g,e=.returned (.tuple #[.pointer (some ⟨g,0,none⟩),.int .i64 0])∧cA w' (fun x=>w.heap.size≤x∧x < w'.heap.size) g n []∧Sm No w w':=by
 have k1:¬(n:Int) < 1:=by omega
 have k2:¬(n:Int) > 65536:=by omega
 go_in;go_wp2_with (refine ki rfl 34 5 _ _ rfl n rfl rfl Tryz.underlying34 fC (by omega) ?_;intro w1 hb hs1 hz;have H1:=aa (ab hb (ab hs1 hz));clear hb hs1 hz);go_ret2;have hz:=H1.out.2.2;refine⟨w1.heap.size,rfl,⟨w.heap.size,0,List.replicate n 0,⟨Bk.new w1 _ _,H1.out.1.alloc _,jo.new n (by omega),by omega⟩,⟨by omega,by simp⟩,⟨Nat.le_refl _,by simp;omega⟩,h2⟩,H1.out.2.1.alloc _⟩
def cY(ps:List (Nat × Nat)):List Value:=ps.flatMap fun x=>[.int .i64 (x.1:Int),.int .i64 (x.2:Int)]
theorem uX(a b:List (Nat × Nat)):cY (a++b)=cY a++cY b:=by simp [cY]
theorem zr{ps:List (Nat × Nat)}{k:Nat}{x:Nat × Nat}(h:ps[k]?=some x):(cY ps)[k * 2]?=some (.int .i64 (x.1:Int))∧(cY ps)[k * 2+1]?=some (.int .i64 (x.2:Int)):=by
 induction ps generalizing k with
 |nil=>cases h
 |cons y l ih=>
  cases k with
  |zero=>injection h with h;subst h;exact⟨rfl,rfl⟩
  |succ k=>
   have:=ih (k:=k) (by simpa using h);rw [show (k+1) * 2=k * 2+1+1 from by omega];exact this
theorem rd(ps:List (Nat × Nat))(k:Nat):(cY ps).drop (k * 2)=cY (ps.drop k):=by
 induction ps generalizing k with
 |nil=>simp [cY]
 |cons y l ih=>
  cases k with
  |zero=>simp
  |succ k=>
   rw [show (k+1) * 2=k * 2+1+1 from by omega];exact ih k
def Gh(w:World)(g:Nat)(vB vP:Value)(b:ah)(ps:List (Nat × Nat))(last:Nat):Prop:=
 Bk w g 84 #[vB,vP,.int .i64 (last:Int)]∧aR w 5 1 vB b.length (aL b)∧aR w 89 2 vP ps.length (cY ps)
def eU(w:World)(O:Nat→Prop)(g:Nat)(b:ah)(ps:List (Nat × Nat))(last:Nat):Prop:=
 ∃ vB vP,Gh w g vB vP b ps last∧O g∧(∀ x,vB.ownBlock=some x→O x)∧∀ x,vP.ownBlock=some x→O x
section
variable {w w':World} {S O P:Nat→Prop} {g:Nat} {vB vP:Value} {b:ah} {ps:List (Nat × Nat)} {last:Nat}
theorem aR.type{t:TypeId}{size n:Nat}{v:Value}{xs:List Value}(h:aR w t size v n xs){x:Nat}(hx:v.ownBlock=some x):∃ cur,w.heap[x]?=some (.cells cur t (0,0)):=by
 rcases h.2 with ⟨h1,h2⟩|⟨g,off,cap,cur,hv,hh,r⟩
 ·rw [h1] at hx;cases hx
 ·subst hv;injection hx with hx;have hx:g=x:=hx;subst hx;exact⟨cur,hh⟩
theorem aR.ne_bk{t u:TypeId}{size n:Nat}{v:Value}{xs:List Value}{cs:Array Value}(h:aR w t size v n xs)(k:Bk w g u cs)(htu:t≠u):∀ x,v.ownBlock=some x→x≠g:=by
 rintro x hx rfl;obtain⟨cur,hc⟩:=h.type hx;unfold Bk at k;rw [hc] at k;injection k with k;injection k with _ k;exact htu k
theorem aR.ne_own{t u:TypeId}{s1 s2 n m:Nat}{v v2:Value}{xs ys:List Value}(h:aR w t s1 v n xs)(k:aR w u s2 v2 m ys)(htu:t≠u):∀ x,v.ownBlock=some x→¬v2.ownBlock=some x:=by
 intro x hx hy;obtain⟨cur,hc⟩:=h.type hx;obtain⟨cur2,hc2⟩:=k.type hy;rw [hc] at hc2;injection hc2 with k;injection k with _ k;exact htu k
theorem eU.sm(h:eU w O g b ps last)(hs:Sm S w w')(hS:∀ x,O x→¬S x):eU w' O g b ps last:=by
 obtain⟨vB,vP,⟨h1,h2,h3⟩,h4,h5,h6⟩:=h;exact⟨vB,vP,⟨h1.sm hs (hS _ h4),h2.sm hs (fun x e=>hS x (h5 x e)),h3.sm hs (fun x e=>hS x (h6 x e))⟩,h4,h5,h6⟩
theorem eU.no(h:eU w O g b ps last)(hs:Sm No w w'):eU w' O g b ps last:=h.sm hs (fun _ _ e=>e)
theorem eU.imp(h:eU w O g b ps last)(hi:∀ x,O x→P x):eU w P g b ps last:=by
 obtain⟨vB,vP,h1,h4,h5,h6⟩:=h;exact⟨vB,vP,h1,hi _ h4,fun x e=>hi x (h5 x e),fun x e=>hi x (h6 x e)⟩
end
theorem iR(w:World)(g:Nat)(vB vP:Value)(b:ah)(ps:List (Nat × Nat))(last:Nat)(h:Gh w g vB vP b ps last):Calls Tryz.prog 15 #[.pointer (some ⟨g,0,none⟩)] w fun e w'=>e=.returned (.int .i64 (b.length:Int))∧w=w':=by
 obtain⟨A,c,rfl, -⟩:=h.2.1.row;have hgl:=h.1.lt;obtain⟨m,hm⟩:=ai b.length;rw [hm] at h ⊢;have c0:=h.1.at 0 (v:=.slice A m c) rfl;clear h hm;go_in;go_wp2_with fail;go_ret;exact⟨rfl,rfl⟩
def pR(b:ah)(n:Int):Nat:=(max 0 (min n b.length)).toNat
theorem rq(w:World)(g:Nat)(A:Option Addr)(c:Nat)(vP:Value)(b:ah)(ps:List (Nat × Nat))(last:Nat)(n:Int)(h:Gh w g (.slice A b.length c) vP b ps last)(hbc:b.length≤c):Calls Tryz.prog 43 #[.pointer (some ⟨g,0,none⟩),.int .i64 n] w fun e w'=>e=.returned (.slice A (pR b n) c)∧Sm No w w':=by
 have hgl:=h.1.lt;have hk:(0:Int)≤max 0 (min n b.length):=by omega
 have hk2:max 0 (min n b.length)≤(c:Int):=by omega
 unfold pR;obtain⟨k,hke⟩:∃ k:Nat,max 0 (min n b.length)=(k:Int):=⟨_,(Int.toNat_of_nonneg hk).symm⟩;rw [hke] at hk hk2 ⊢;rw [Int.toNat_natCast];obtain⟨m,hm⟩:=ai b.length;rw [hm] at h hke;obtain⟨y,hy⟩:=ai (min n (m:Int));rw [hy] at hke;have c0:=h.1.at 0 (v:=.slice A m c) rfl;clear h hm;go_in;go_wp2_with fail;go_quiet (fail);go_wp2_with fail;go_ret;exact⟨rfl,(Sm.refl No w).drewN _⟩
theorem Ep(b:ah)(n:Int):pR b n≤b.length:=by unfold pR;omega
theorem ww(w:World)(g:Nat)(vB vP:Value)(b:ah)(ps:List (Nat × Nat))(last:Nat)(n:Int)(h:Gh w g vB vP b ps last)(hl:b.length≤1000000):Calls Tryz.prog 18 #[.pointer (some ⟨g,0,none⟩),.int .i64 n] w fun e w'=>∃ v,e=.returned v∧je w' w.heap.size 5 v (b.take (pR b n))∧Sm No w w':=by
 obtain⟨A,c,rfl,hR,hc,hn⟩:=h.2.1.row;have HF:=aa (rq w g A c vP b ps last n h hc);have hk:=Ep b n;have HC:=aa (fun (W:World) (hs:Sm No w W)=>gK W A c (b.take (pR b n)) (fun j u hj=>(hR.no hs) j u (by
  unfold aL at hj ⊢;rw [List.map_take,List.getElem?_take] at hj;split at hj
  ·exact hj
  ·cases hj)) (fun e=>⟨by rw [List.length_take];have:=(hn e).1;omega,(hn e).2⟩) (by rw [List.length_take];omega))
 rw [List.length_take,Nat.min_eq_left hk] at HC;obtain⟨k,hke⟩:=ai (pR b n);rw [hke] at HF HC ⊢;clear h hR hc hn hk hke;go_in;go_wp2_with fail;refine HF.out.mono ?_;rintro e w1 ⟨rfl,hs1⟩;have H1:=aa hs1;have HC1:=aa (HC.out w1 hs1);clear hs1;go_wp2_with fail;refine HC1.out.mono ?_;rintro e w2 ⟨v,rfl,hv,hs2⟩;have H2:=aa (ab hv hs2);clear hv hs2;go_wp2_with fail;go_ret;exact⟨v,rfl,aH.base H2.out.1 (fun b e=>Nat.le_trans H1.out.size (H2.out.1.lt b e).1),H1.out.tt H2.out.2⟩
theorem FA:(Tryz.prog.info? 3).map (fun i=>(i.zero,i.size,i.bytes))=some (some (.int .i64 0),1,8):=by kernel_rfl
def kD(ps:List (Nat × Nat)):List Value:=ps.map fun x=>.int .i64 (x.1:Int)
theorem nu(w:World)(g:Nat)(vB vP:Value)(b:ah)(ps:List (Nat × Nat))(last:Nat)(h:Gh w g vB vP b ps last)(hl:ps.length≤100000):Calls Tryz.prog 23 #[.pointer (some ⟨g,0,none⟩)] w fun e w'=>∃ v,e=.returned v∧w'.ownsRow w.heap.size 3 1 v ps.length (kD ps)∧Sm No w w':=by
 obtain⟨A,c,rfl,hR,hc,hn⟩:=h.2.2.row;have hgl:=h.1.lt;have H:=aa hR;obtain⟨m,hm⟩:=ai ps.length;have HM:=aa hm;rw [hm] at h hl ⊢;have c0:=h.1.at 1 (v:=.slice A m c) rfl;clear h hR hc hn hm;go_in;go_wp2_with fail
 go_loopw [3,13] (fun lv iv wr=>∃ k,k≤m∧iv=.int .i64 (k:Int)∧wr.ownsRow w.heap.size 3 1 lv k (kD (ps.take k))∧Sm No w wr) (fun _ iv _=>m-(intOf iv).toNat)
 case atStart=>exact⟨0,Nat.zero_le _,rfl,World.ownsRow_nil _ _ _ _,Sm.refl _ _⟩
 case round=>
  obtain⟨k,hk,rfl,hO,hs⟩:=hrel;by_cases hlt:k < m
  ·obtain⟨x,hx⟩:∃ x,ps[k]?=some x:=⟨_,List.getElem?_eq_getElem (by rw [HM.out];exact hlt)⟩;obtain⟨p1,p2⟩:=zr hx;obtain⟨bb,off,rfl,hbb,r1⟩:=(H.out.no hs).at p1;obtain⟨bb',off',e, -,r2⟩:=(H.out.no hs).at p2;injection e with e;injection e with e1 e2;subst e1 e2;have k1:(k:Int) < (m:Int):=by omega
   have k2:(0:Int)≤(k:Int):=by omega
   have HX:=aa (ab hx (ab hO hs));obtain⟨a,b2⟩:=x;dsimp only at r1 r2;rw [←Nat.add_assoc] at r2;obtain⟨wb,hwb⟩:∃ wb,wr.alloc (.cells #[.int .i64 (a:Int),.int .i64 (b2:Int)] 89)=wb:=⟨_,rfl⟩;have hsb:Sm No wr wb:=by rw [←hwb];exact(Sm.refl No wr).alloc _
   have hown:(wb.alloc (.cells #[.int .i64 (a:Int)] 3)).ownsRow w.heap.size 3 1 u3 k (kD (ps.take k)):=(ae hO hsb (fun _ _ e=>e)).alloc _;have hz:w.heap.size≤(wb.alloc (.cells #[.int .i64 (a:Int)] 3)).heap.size:=by have:=hs.size;have:=hsb.size;rw [World.size_alloc];omega
   have HP:=aa (ab hown (ab hz (Bk.new wb 3 #[.int .i64 (a:Int)])));have HB:=aa hsb;have hbk:Bk wb wr.heap.size 89 #[.int .i64 (a:Int),.int .i64 (b2:Int)]:=by rw [←hwb];exact Bk.new wr _ _
   have q0:=hbk.at 0 (v:=.int .i64 (a:Int)) rfl;clear hbk hx hO hs p1 p2 hown hz hsb;go_wp2_with (first|(at_builtin;refine aY rfl _ _ 59 3 rfl Tryz.underlying59 (.int .i64 0) 1 8 FA rfl (by decide) (by decide) w.heap.size k u3 (kD (ps.take k)) rfl HP.out.1 wb.heap.size #[.int .i64 (a:Int)] rfl HP.out.2.2 rfl (by simp [Value.oneCell']) (by omega) HP.out.2.1 ?_;intro v6 w6 hown6 hs6 hv6;have H6:=aa (ab hown6 (ab hs6 hv6));clear hown6 hs6 hv6));refine⟨⟨k+1,by omega,by go_num,?_,((HX.out.2.2.tt HB.out).alloc _).fresh H6.out.2.1 (fun b e=>(World.ownsRow.lt HX.out.2.1 b e).1)⟩,by simp [intOf];omega⟩;have e:kD (ps.take (k+1))=kD (ps.take k)++[.int .i64 (a:Int)]:=by unfold kD;rw [List.take_add_one,HX.out.1,List.map_append];rfl
   rw [e];exact H6.out.1
  ·obtain rfl:k=m:=by omega
   go_wp2_with fail;go_ret;rw [List.take_of_length_le (by rw [HM.out];exact Nat.le_refl _)] at hO;exact⟨_,rfl,hO,hs⟩
theorem EZ:(Tryz.prog.info? 89).map (fun i=>(i.zero,i.size,i.bytes))=some (some (.agg #[.int .i64 0,.int .i64 0]),2,16):=by kernel_rfl
theorem xX {w w':World} {O:Nat→Prop} {g:Nat} {vB vP vB2 vP2:Value} {b t:ah} {ps:List (Nat × Nat)} {last:Nat} (og:O g) (ob:∀ x,vB.ownBlock=some x→O x) (op:∀ x,vP.ownBlock=some x→O x)
 (hk:Bk w' g 84 #[vB2,vP2,.int .i64 ((last+1:Nat):Int)]) (h1:aR w' 5 1 vB2 (b.length+t.length) (aL b++aL t)) (h2:aR w' 89 2 vP2 (ps.length+1) (cY ps++[.int .i64 ((last+1:Nat):Int),.int .i64 (t.length:Int)]))
 (e1:vB2.ownBlock=vB.ownBlock∨∃ x,vB2.ownBlock=some x∧w.heap.size≤x) (e2:vP2.ownBlock=vP.ownBlock∨∃ x,vP2.ownBlock=some x∧w.heap.size≤x):eU w' (be O w w') g (b++t) (ps++[(last+1,t.length)]) (last+1):=by
 refine⟨vB2,vP2,⟨hk,?_,?_⟩,Or.inl og,fun x e=> ?_,fun x e=> ?_⟩
 ·rw [List.length_append,kG];exact h1
 ·rw [List.length_append,uX];exact h2
 ·rcases e1 with e1|⟨y,e1,hy⟩
  ·exact Or.inl (ob x (e1 ▸ e))
  ·rw [e1] at e;injection e with e;subst e;exact Or.inr ⟨hy,h1.lt _ e1⟩
 ·rcases e2 with e1|⟨y,e1,hy⟩
  ·exact Or.inl (op x (e1 ▸ e))
  ·rw [e1] at e;injection e with e;subst e;exact Or.inr ⟨hy,h2.lt _ e1⟩
theorem py (w:World) (O:Nat→Prop) (g rb:Nat) (b:ah) (ps:List (Nat × Nat)) (last:Nat) (h:eU w O g b ps last) (ad:Addr) (cp:Nat) (t:ah) (hcell:w.cell? ⟨rb,0,none⟩=some (.slice (some ad) t.length cp)) (hR:ax w (some ad) (aL t)) (hA:¬O ad.block)
 (hb:b.length+t.length≤1000000) (hp:ps.length≤1000000) (hlast:last≤1000000):
 Calls Tryz.prog 71 #[.pointer (some ⟨g,0,none⟩),.slice (some ⟨rb,0,none⟩) 1 1] w fun e w'=>e=.returned (.int .i64 ((last+1:Nat):Int))∧eU w' (be O w w') g (b++t) (ps++[(last+1,t.length)]) (last+1)∧Sm O w w':=by
 obtain⟨vB,vP,hV,og,ob,op⟩:=h;obtain⟨A,c,rfl, -,hbc, -⟩:=hV.2.1.row;obtain⟨A2,c2,rfl, -,hpc, -⟩:=hV.2.2.row;have H:=aa (ab hV (ab og (ab ob (ab op (ab hR hA)))));obtain⟨nb,hnb⟩:∃ n,b.length=n:=⟨_,rfl⟩;obtain⟨np,hnp⟩:∃ n,ps.length=n:=⟨_,rfl⟩;obtain⟨nt,hnt⟩:∃ n,t.length=n:=⟨_,rfl⟩;have hgl:=hV.1.lt;have c0:=hV.1.at 0 (v:=.slice A b.length c) rfl;rw [hnb] at hb c0;rw [hnt] at hb hcell;have HN:=aa (ab hnb (ab hnp hnt));rw [hnp] at hp;clear hV og ob op hR hA hnb hnp hnt;go_in;go_wp2_with fail
 go_loopw [17] (fun iv wr=>(iv=.int .i64 0∧wr=w)∨(iv=.int .i64 1∧∃ vB2,Bk wr g 84 #[vB2,.slice A2 ps.length c2,.int .i64 (last:Int)]∧aR wr 5 1 vB2 (b.length+t.length) (aL b++aL t)∧aR wr 89 2 (.slice A2 ps.length c2) ps.length (cY ps)∧(vB2.ownBlock=(Value.slice A b.length c).ownBlock∨∃ x,vB2.ownBlock=some x∧w.heap.size≤x)∧Sm O w wr)) (fun iv _=>1-(intOf iv).toNat)
 case atStart=>exact Or.inl ⟨rfl,rfl⟩
 case round=>
  rcases hrel with ⟨rfl,hwr⟩|⟨rfl,vB2,hW⟩
  ·obtain rfl:=hwr.symm;have HO:=aa (show aR w 5 1 (.slice A nb c) nb (aL b) from by have:=H.out.1.2.1;rwa [HN.out.1] at this);have z0:=H.out.1.1.fz 0;go_wp2_with (at_builtin;refine qf rfl _ _ 34 5 rfl Tryz.underlying34 (.int .u8 0) 1 1 fC rfl (by decide) (by decide) nb (.slice A nb c) (aL b) rfl HO.out ad nt cp (aL t) rfl (by rw [pt,HN.out.2.2,Nat.mul_one]) H.out.2.2.2.2.1 (oQ t) (by omega) ?_;intro v6 w6 hown6 hs6 hv6;obtain⟨A6,d6,rfl, -,hbc6, -⟩:=hown6.row;have hk6:=H.out.1.1.sm hs6 (fun e=>H.out.1.2.1.ne_bk H.out.1.1 (by decide) _ (by rw [HN.out.1];exact e) rfl);have c6:=hk6.at 0 (v:=.slice A b.length c) rfl;have z6:=hk6.fz 0;have hgl6:=hk6.lt;have H6:=aa (ab hown6 (ab hs6 (ab hv6 hk6)));clear hown6 hs6 hv6 hk6);refine⟨Or.inr ⟨rfl,_,(H6.out.2.2.2.set 0 _).eq rfl,?_,?_,?_,?_⟩,by decide⟩
   ·rw [HN.out.1,HN.out.2.2];exact H6.out.1.sm ((Sm.refl _ w6).set1 0 _) (fun x e=>H6.out.1.ne_bk H6.out.2.2.2 (by decide) x e)
   ·exact(H.out.1.2.2.sm H6.out.2.1 (fun x e=>H.out.1.2.2.ne_own HO.out (by decide) x e)).sm ((Sm.refl _ w6).set1 0 _) (fun x e=>(H.out.1.2.2.sm H6.out.2.1 (fun x e=>H.out.1.2.2.ne_own HO.out (by decide) x e)).ne_bk H6.out.2.2.2 (by decide) x e)
   ·rw [HN.out.1];rcases H6.out.2.2.1 with e|e
    ·exact Or.inl e
    ·exact Or.inr ⟨_,e,Nat.le_refl _⟩
   ·exact(H6.out.2.1.mono (fun b' _ e=>H.out.2.2.1 b' (by rw [HN.out.1];exact e))).setS H.out.2.1 0 _
  ·obtain⟨h1,h2,h3,h4,h5⟩:=hW;obtain⟨A6,d6,rfl, -,hbc6, -⟩:=h2.row;have HW:=aa (ab h1 (ab h2 (ab h3 (ab h4 h5))));have q2:=h1.at 2 (v:=.int .i64 (last:Int)) rfl;have z2:=h1.fz 2;have hgl2:=h1.lt;have i1:IntKind.i64.wrap ((last:Int)+1)=(last:Int)+1:=IntWalk.i64_in _ (by omega);clear h1 h2 h3 h4 h5;go_upto_region 10 with fail;obtain⟨w7,hw7⟩:=ai (wr.setCell ⟨g,2,none⟩ (.int .i64 ((last:Int)+1)));rw [hw7];have hk7:Bk w7 g 84 #[.slice A6 (b.length+t.length) d6,.slice A2 ps.length c2,.int .i64 ((last:Int)+1)]:=by rw [←hw7];exact(HW.out.1.set 2 _).eq rfl
   have hs7:Sm (fun x=>x=g) wr w7:=by rw [←hw7];exact(Sm.refl _ wr).set1 2 _
   rw [HN.out.1,HN.out.2.2,HN.out.2.1] at hk7;have s0:=hk7.at 0 (v:=.slice A6 (nb+nt) d6) rfl;have s1:=hk7.at 1 (v:=.slice A2 np c2) rfl;have s2:=hk7.at 2 (v:=.int .i64 ((last:Int)+1)) rfl;have hgl7:=hk7.lt;have i2:IntKind.i64.wrap ((nb:Int)+(nt:Int)-(nb:Int))=(nt:Int):=by rw [show (nb:Int)+(nt:Int)-(nb:Int)=(nt:Int) from by omega];exact IntWalk.i64_in _ (by omega)
   have hO7:aR w7 89 2 (.slice A2 np c2) np (cY ps):=by have:=HW.out.2.2.1;rw [HN.out.2.1] at this;exact this.sm hs7 (fun x e=>this.ne_bk HW.out.1 (by decide) x e)
   have HO:=aa (fun (W:World) (hs:Sm No w7 W)=>hO7.no hs);have HK7:=aa (ab hk7 (ab hs7 hO7));have hne7:¬(Value.slice A2 np c2).ownBlock=some g:=fun e=>hO7.ne_bk hk7 (by decide) _ e rfl;have HNE:=aa hne7;clear hk7 hs7 hO7 hw7 hne7
   go_region_law
    (first
     |(refine vu (by rfl) _ _ 82 89 (by rfl) Tryz.underlying82 (.agg #[.int .i64 0,.int .i64 0]) 2 16 EZ rfl (by decide) (by decide) np _ (cY ps) (by rfl) (HO.out _ (by repeat (first|exact Sm.refl _ _|apply Sm.drew|apply Sm.drewN|apply Sm.alloc))) _ #[.int .i64 ((last:Int)+1),.int .i64 (nt:Int)] (by rfl) (Bk.drew (Bk.new w7 89 _)) rfl (by simp [Value.oneCell']) hp ?_;intro A8 d8 w8 hown8 hs8 hv8;have hk8:=(Bk.drew (HK7.out.1.alloc (.cells #[.int .i64 ((last:Int)+1),.int .i64 (nt:Int)] 89))).sm hs8 HNE.out;have o8:=hk8.at 0 (v:=.slice A6 (nb+nt) d6) rfl;have q8:=hk8.at 1 (v:=.slice A2 np c2) rfl;have p8:=hk8.at 2 (v:=.int .i64 ((last:Int)+1)) rfl;have z8:=hk8.fz 1;have hgl8:=hk8.lt;have H8:=aa (ab hown8 (ab hs8 (ab hv8 hk8)));clear hown8 hs8 hv8 hk8)
     |fail)
   all_goals
    go_wp2_with fail;go_ret;have hsA:Sm (fun x=>x=g∨(Value.slice A2 ps.length c2).ownBlock=some x) wr (w8.setCell ⟨g,1,none⟩ (.slice A8 (np+1) d8)):=by
     refine((((HK7.out.2.1.mono (fun b _ e=>Or.inl e)).alloc _).drew).trans H8.out.2.1 (fun b _ e=>Or.inr (by rw [HN.out.2.1];exact e))).setS (Or.inl rfl) 1 _
    refine⟨by go_num,xX (vB:=.slice A b.length c) (vP:=.slice A2 ps.length c2) H.out.2.1 H.out.2.2.1 H.out.2.2.2.1 ((H8.out.2.2.2.set 1 _).eq rfl) ?_ ?_ ?_ ?_,?_⟩
    ·have h6:=HW.out.2.1.sm hsA (fun x e e2=>e2.elim (HW.out.2.1.ne_bk HW.out.1 (by decide) x e) (HW.out.2.1.ne_own HW.out.2.2.1 (by decide) x e));rw [HN.out.1,HN.out.2.2] at h6 ⊢;exact h6
    ·have h8:=H8.out.1.sm ((Sm.refl _ w8).set1 1 (.slice A8 (np+1) d8)) (fun x e=>H8.out.1.ne_bk H8.out.2.2.2 (by decide) x e);rw [HN.out.2.1,HN.out.2.2];exact h8
    ·have h4:=HW.out.2.2.2.1;rw [HN.out.1,HN.out.2.2] at h4;rw [HN.out.1];exact h4
    ·rcases H8.out.2.2.1 with e|e
     ·exact Or.inl (by rw [HN.out.2.1];exact e)
     ·refine Or.inr ⟨_,e,?_⟩;have e1:=HW.out.2.2.2.2.size;have e2:=HK7.out.2.1.size;show w.heap.size≤(w7.alloc _).heap.size;rw [World.size_alloc];omega
    ·exact HW.out.2.2.2.2.trans hsA (fun b _ e=>e.elim (fun e=>e ▸ H.out.2.1) (fun e=>H.out.2.2.2.1 b e))
end Go.Proofs.YtadcjgopaadfjaaGreatDoor
namespace Go.Proofs.YtadcjgopaadfjaaGreatDoor
open Go.RowKit Go.Proofs Go.Maps
def dT(w:World)(b n:Nat)(f:Int→Bool):Prop:=
 ∃ D:DataW Value,w.ownsMap Tryz.prog 3 RR b n D∧∀ p:Int,(Lit.int .i64 p).wf=true→D.atKey (.int .i64 p) (.held (.bool false))=.held (.bool (f p))
theorem Fp:Keyed Tryz.prog 3:=int_keyed Tryz.underlying3
theorem Gf(w:World):(zeroValue 4).run Tryz.prog w=.ok (.bool false) w:=by kernel_rfl
section
variable {S:Nat→Prop} {w w':World} {b n:Nat} {f:Int→Bool}
theorem dT.made(w:World):dT (w.alloc (.map #[] 0)) w.heap.size 0 (fun _=>false):=⟨.map [],World.ownsMap_made w _ _ _,fun _ _=>rfl⟩
theorem dT.sm(h:dT w b n f)(hs:Sm S w w')(hb:¬S b):dT w' b n f:=by
 obtain⟨D,h1,h2⟩:=h;exact⟨D,vG h1 hs hb,h2⟩
theorem dT.no(h:dT w b n f)(hs:Sm No w w'):dT w' b n f:=h.sm hs (fun e=>e)
theorem dT.mono(h:dT w b n f){m:Nat}(hm:n≤m):dT w b m f:=by
 obtain⟨D,h1,h2⟩:=h;exact⟨D,h1.mono hm,h2⟩
theorem dT.lt(h:dT w b n f):b < w.heap.size:=by
 obtain⟨D,h1,_⟩:=h;exact h1.lt
theorem dT.isMap(h:dT w b n f):∃ es clock,w.heap[b]?=some (.map es clock):=by
 obtain⟨D,⟨es,clock,h1,_⟩,_⟩:=h;exact⟨es,clock,h1⟩
theorem dT.look(h:dT w b n f)(p:Int)(hp:(Lit.int .i64 p).wf=true):
 (Instr.lookup 44 (.map (some b)) (.int .i64 p) false).run Tryz.prog w=.ok (.bool (f p)) w:=by
 obtain⟨D,h1,h2⟩:=h;obtain⟨v,ps,hrun,hv⟩:=h1.lookup Fp Tryz.underlying44 (Gf w) (zd:=.held (.bool false)) (zp:=[]) rfl (keyOf_int_mk Tryz.underlying3 hp);rw [h2 p hp] at hv;unfold RR at hv;injection hv with hv;have e:=(Prod.mk.inj hv).1;injection e with e;subst e;exact hrun
theorem xi{a b:Int}(h:a≠b):Lit.int .i64 a≠Lit.int .i64 b:=by
 intro e;injection e with _ e;exact h e
theorem dT.put(h:dT w b n f)(hn:n≤1000000)(p:Int)(hp:(Lit.int .i64 p).wf=true)(v:Bool):
 ∃ w',(Instr.mapUpdate 44 (.map (some b)) (.int .i64 p) (.bool v)).run Tryz.prog w=.ok () w'∧dT w' b (n+1) (fun q=>if q=p then v else f q)∧Sm (fun g=>g=b) w w':=by
 obtain⟨D,h1,h2⟩:=h;obtain⟨w',hrun,ho,hg⟩:=h1.update Fp Tryz.underlying44 (by unfold maxLen;omega) (val:=.bool v) (d:=.held (.bool v)) (ps:=[]) (keyOf_int_mk Tryz.underlying3 hp) rfl;refine⟨w',hrun,⟨_,ho,fun q hq=> ?_⟩,(Sm.refl _ w).grown hg (fun k hk=>Or.inl (by injection hk with hk;exact hk.symm))⟩;obtain⟨es,clock,_,_,_,hD⟩:=h1;have hmap:IsMap D:=⟨_,hD⟩;by_cases e:q=p
 ·subst e;show _=DataW.held (Value.bool (if q=q then v else f q));rw [if_pos rfl];exact atKey_put_same hmap (by simp [WideAt.IsKeyLit]) _ _
 ·show _=DataW.held (Value.bool (if q=p then v else f q));rw [if_neg e,atKey_put_other (xi e)];exact h2 q hq
theorem dT.drop(h:dT w b n f)(p:Int)(hp:(Lit.int .i64 p).wf=true)(ty:TypeId):
 ∃ w',(Builtin.delete_ #[44,3] ty #[.map (some b),.int .i64 p]).run Tryz.prog w=.ok (.tuple #[]) w'∧dT w' b n (fun q=>if q=p then false else f q)∧Sm (fun g=>g=b) w w':=by
 obtain⟨D,h1,h2⟩:=h;obtain⟨w',hrun,ho,hg⟩:=h1.drop Fp Tryz.underlying44 (keyOf_int_mk Tryz.underlying3 hp) ty;refine⟨w',hrun,⟨_,ho,fun q hq=> ?_⟩,(Sm.refl _ w).grown hg.grown (fun k hk=>Or.inl (by injection hk with hk;exact hk.symm))⟩;by_cases e:q=p
 ·subst e;show _=DataW.held (Value.bool (if q=q then false else f q));rw [if_pos rfl];exact atKey_del_same _
 ·show _=DataW.held (Value.bool (if q=p then false else f q));rw [if_neg e,atKey_del_other (xi e)];exact h2 q hq
end
end Go.Proofs.YtadcjgopaadfjaaGreatDoor
