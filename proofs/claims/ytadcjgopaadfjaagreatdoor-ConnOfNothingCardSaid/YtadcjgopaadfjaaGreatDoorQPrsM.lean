import Derived.Test.YtadcjgopaadfjaaGreatDoorQQ
import Derived.Test.YtadcjgopaadfjaaGreatDoorQPrsG
namespace Go.Proofs.YtadcjgopaadfjaaGreatDoor
open Go.RowKit Go.Proofs
def qC(h:qN):Value:=.agg #[.int .i64 h.kind,.int .i64 h.len,.bool h.close,.bool h.expect]
def mg(p:qN × Int)(w:World)(e:Ending)(w':World):Prop:=Sm No w w'∧e=.returned (.tuple #[qC p.1,.int .i64 p.2])
theorem iQ{m:Int}{fs:List aM}(h:jp m (ak fs ji)=false):gW m fs=(nw,400):=by unfold gW;rw [if_pos h]
theorem ek{m:Int}{fs:List aM}(h:jp m (ak fs ji)=true)(h1:(bC m fs).2.2≠0):gW m fs=(nw,(bC m fs).2.2):=by unfold gW;rw [if_neg (by rw [h];decide),if_pos h1]
theorem tZ{m:Int}{fs:List aM}(h:jp m (ak fs ji)=true)(h1:(bC m fs).2.2=0)(h2:aO (ar (ak fs lJ))=none):gW m fs=(nw,400):=by
 unfold gW;rw [if_neg (by rw [h];decide),if_neg (by rw [h1];decide),if_pos h2]
def Dv(m:Int)(fs:List aM)(x:Bool):qN:=⟨(bC m fs).1,(bC m fs).2.1,nR m (aO (ar (ak fs lJ))),x⟩
theorem rx{m:Int}{fs:List aM}(h:jp m (ak fs ji)=true)(h1:(bC m fs).2.2=0)(h2:aO (ar (ak fs lJ))≠none):gW m fs=
 if m=1∧0 < (ak fs lH).length then (if dp (ee fs lH) ni=false then (nw,417) else (Dv m fs (decide ((bC m fs).1=2)||decide (0 < (bC m fs).2.1)),0)) else (Dv m fs false,0):=by
 unfold gW;rw [if_neg (by rw [h];decide),if_neg (by rw [h1];decide),if_neg h2];rfl
theorem pr{m:Int}{fs:List aM}(h:0 < (ak fs gS).length):bC m fs=(2,0,qQ m (ak fs eH) (ak fs gS)):=by unfold bC;rw [if_pos h]
theorem oS{m:Int}{fs:List aM}(h:¬0 < (ak fs gS).length)(h1:0 < (ak fs eH).length):bC m fs=(1,(sW (ak fs eH)).1,(sW (ak fs eH)).2):=by unfold bC;rw [if_neg h,if_pos h1]
theorem sr{m:Int}{fs:List aM}(h:¬0 < (ak fs gS).length)(h1:¬0 < (ak fs eH).length):bC m fs=(0,0,0):=by unfold bC;rw [if_neg h,if_neg h1]
section
variable {tt:TypeId} {tl:List Value}
theorem uR{l:List aM}{name:ByteArray}(h:∀ x∈l,x.2.size≤30000)(hl:l.length≤24):(ee l name).length≤900000:=by
 have hv:∀ x∈ak l name,x.size≤30000:=by
  intro x hx;unfold ak at hx;obtain⟨y,hy,rfl⟩:=List.mem_map.mp hx;exact h y (List.mem_filter.1 hy).1
 have hn:=iE l name;have hk:∀ xs:List ByteArray,(∀ x∈xs,x.size≤30000)→Lib.lens (xs.map (·.data.toList))≤30000 * xs.length:=by
  intro xs
  induction xs with
  |nil=>intro _;simp [Lib.lens]
  |cons x xs ih=>
   intro h;have h1:=ih (fun y hy=>h y (List.mem_cons_of_mem _ hy));have h2:=h x (List.mem_cons_self ..);have h3:x.data.toList.length=x.size:=by simp
   simp only [Lib.lens,List.map_cons,List.sum_cons,List.length_cons] at h1 ⊢;omega
 unfold ee
 cases hc:ak l name with
 |nil=>simp [Lib.join_nil]
 |cons x xs=>
  rw [hc] at hv hn;rw [List.map_cons,Lib.join_length];have:=hk (x::xs) hv;simp only [List.map_cons,List.length_cons,List.length_map] at this hn ⊢;have h2:jg.length=2:=rfl;rw [h2];omega
theorem vg{l:List aM}(h:fT l)(nm:ByteArray):(ee l nm).length≤900000:=
 uR (fun x hx=>by have:=qh hx;have:=h.size;omega) h.len
end
end Go.Proofs.YtadcjgopaadfjaaGreatDoor
