import Derived.Test.YtjlhabhibmgbdaaGreatDoorXZ
namespace Go.Proofs.YtjlhabhibmgbdaaGreatDoor
/-- The card. -/
theorem playNilCard_holds : Rows.PlayNilCardSaid :=
  Claim7.holds_tied_plain_at .later [] [.data, .data, .data, .sentinel, .sentinel] true (true, "6e9abf133e470fd9d42cb40febd6b72963f0fb327169c6215d3a72e47a30913e") true
    playNil.over (fun _ h => by cases h) cd1 (fun _ h => by cases h) rowTieP rfl ⟨rfl, rfl⟩ cd2 rfl
    (fun f fn hf hfn => by
      obtain rfl : f = 3 := Option.some.inj (cd3.symm.trans hf) |>.symm
      obtain rfl : fn = Tryz.f3 := (Option.some.inj (Tryz.func3.symm.trans hfn)).symm
      exact ⟨cd5, fun j t ht => by
        rw [Tryz.params3] at ht
        have hm : t ∈ [3] := by simpa using Array.mem_of_getElem? ht
        exact (show Tryz.prog.wantsStandIn t = false by simpa using List.all_eq_true.1 cd4 t hm)⟩)
    cd6
#print axioms playNilCard_holds
end Go.Proofs.YtjlhabhibmgbdaaGreatDoor
