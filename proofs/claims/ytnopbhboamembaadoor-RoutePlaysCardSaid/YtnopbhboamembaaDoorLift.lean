/- The post of a law that writes nothing that was there: the arguments read again as they did, whatever their types. -/
import Derived.Test.YtnopbhboamembaaDoorPost
import Derived.Test.YtnopbhboamembaaDoorProg
import Derived.ReadAgain
import Derived.Carry
import Derived.ShutString
import Derived.OpenShut
namespace Go.Proofs.YtnopbhboamembaaDoor
open Go.RowKit Go.WideShapes Go.ChangeShapes Go.Proofs

theorem kids : Kids Tryd.prog (· < Tryd.prog.types.size) := kids_rows (by kernel_rfl) (by kernel_rfl)
theorem full : ∀ t e, t < Tryd.prog.types.size → Tryd.prog.underlying t = some (.slice e) → 0 < Tryd.prog.cellsOf e := slices_full_of Tryd.prog (by kernel_rfl)

section
variable {H : Type} {enc : TypeId × Value → H} {P : Program}

theorem trodAll_carry {w w' : World} {base : Nat} {spare : Nat → Bool} {held : Bool} : ∀ {ts : List TypeId} {vs : List Value} {ds : List (DataW H)} {ps : List MemPlace},
    DataW.TrodAll enc P w base spare held ts vs ds ps → (∀ p ∈ ps, w.sameAt w' p) → DataW.TrodAll enc P w' base spare held ts vs ds ps
  | [], [], [], _, h, _ => h
  | _ :: _, _ :: _, _ :: _, _, ⟨p, q, ⟨n, h1⟩, h2, e⟩, hs => ⟨p, q, ⟨n, DataW.trod_carry n _ _ _ h1 (fun x hx => hs x (by rw [e]; exact List.mem_append_left _ hx))⟩, trodAll_carry h2 (fun x hx => hs x (by rw [e]; exact List.mem_append_right _ hx)), e⟩

/-- The post of a law: it answers true, it only laid new blocks. -/
theorem post_of_true {f : Func} {s : ChangeSpec} {apart fresh handsOn again : Bool} {W W' : World} {args : Array Value} {ds gs : List (DataW H)} {before : List MemPlace} {tb : TypeId}
    (K : Kids P (· < P.types.size)) (full : ∀ t e, t < P.types.size → P.underlying t = some (.slice e) → 0 < P.cellsOf e) (hp : ∀ t ∈ f.params.toList, t < P.types.size)
    (hW : DataW.Whole enc P f.params.toList s.vars apart W args.toList ds gs before) (hsv : s.vars = []) (hfn : (s.fn H ds).args = ds ∧ (s.fn H ds).vars = [] ∧ (s.fn H ds).results = [.lit (.bool true)])
    (htb : P.underlying tb = some .bool) (hrt : f.resultTypes = #[tb]) (hs : Sm No W W') :
    s.post enc P f apart fresh handsOn again W args (.bool true) W' := by
  have hW0 := hW
  obtain ⟨p, q, hA, hV, rfl, hz, hn⟩ := hW
  rw [hsv] at hV
  obtain ⟨rfl, rfl⟩ := trodVars_none hV
  have hlt : ∀ x ∈ p ++ [], x.block < W.heap.size := fun x hx => hW0.lt x hx
  have hb := hs.bel
  obtain ⟨f1, f2, f3⟩ := hfn
  rw [← List.append_nil ds] at f1 f2 f3
  refine post_of_sm (pa := p) (pv := []) hW0 (fun b sp hd => ?_) (fun sp hsp => ?_) (fun _ _ => ?_) rfl hs (ok_one hrt rfl (okWide_bool_mk htb _))
  · rw [f3, hrt]
    exact trodAll_cons_mk (shut_bool htb _) trodAll_mk0
  · rw [f1, List.append_nil]
    exact (trodAll_carry hA (fun x hx => hb.same (hlt x (by simpa using hx)))).respare K full hp (fun x hx => hsp x (by simpa using hx))
  · rw [f2, hsv]
    rfl
end
end Go.Proofs.YtnopbhboamembaaDoor
