/- The functions of the library on maps, told; the contracts of the shelf laid at this program. -/
import Derived.Laws.AppendOwn
import Derived.Sort.KeysCollected
import Derived.Shelf.SlIter.Nil
import Derived.Shelf.SortM.Plain
import Derived.Shelf.SortM.SortNone
import Derived.Shelf.SlMaps.Clone
import Derived.Test.YtbbmklepnfmppaaProg
import Derived.Test.YtbbmklepnfmppaaXC
set_option linter.unusedSimpArgs false
set_option linter.unusedVariables false
set_option maxHeartbeats 2000000
section
namespace Go.X
open Go.RowKit Go.Maps
open Go.Proofs (encStr)
set_option linter.unusedVariables false
section
variable {P : Program} {ρ : Ren} {base : Nat} {h : Heap} {w w' : World}
theorem HRel.name (hr : HRel P base ρ h w) {id : Nat} {L : Loc} (hb : h.blks.get id = none) (hρ : ρ id = none) (hL : L.b < w.heap.size) : HRel P base (upd ρ id L) h w := by
  have hm := zAA (l := L) hρ
  have hback : ∀ A l bb, h.blks.get A = some bb → upd ρ id L A = some l → ρ A = some l := fun A l bb hq hA => by
    rwa [zG (fun e => by rw [e, hb] at hq; cases hq)] at hA
  have hlt : ∀ A bb, h.blks.get A = some bb → A ≠ id := fun A bb hq e => by rw [e, hb] at hq; cases hq
  refine ⟨hr.le, fun A l hA => ?_, fun A c hc hs => ?_, fun A c l hc hA => ?_, fun A B c d l m hAB hc hd hA hB => hr.alias A B c d l m hAB hc hd (hback A l _ (okCells_iff.1 hc).1 hA) (hback B m _ (okCells_iff.1 hd).1 hB),
    fun A l es hes hA => ?_, fun A B es fs l m hAB h1 h2 hA hB => hr.malias A B es fs l m hAB h1 h2 (hback A l _ h1 hA) (hback B m _ h2 hB), upd_fin hr.fin, fun A c f l hc hf h0 hro hA => hr.mark A c f l hc hf h0 hro (hback A l _ (okCells_iff.1 hc).1 hA),
    hr.loops.step hm (fun A r l h1 h2 => ⟨h1, hback A l _ h1 h2⟩) (fun _ _ h => h) (fun A l h1 h2 => by obtain ⟨c, k1, k2⟩ := h1; exact .inr ⟨⟨c, k1, k2⟩, hback A l _ k1 h2⟩) (fun A l es es' cl h1 h2 h3 => .inr ⟨es, h1, hback A l _ h1 h2, h3⟩)⟩
  · by_cases e : A = id
    · subst e; rw [zU] at hA; cases hA; exact hL
    · rw [zG e] at hA; exact hr.bnd A l hA
  · rw [zG (hlt A _ hc)] at hs
    obtain ⟨l, hl⟩ := Option.isSome_iff_exists.1 (hr.found A c hc hs)
    rw [hm _ _ hl]; rfl
  · obtain ⟨cs, T, fz, g1, g2, g3, g4, g5⟩ := hr.cells A c l hc (hback A l _ (okCells_iff.1 hc).1 hA)
    exact ⟨cs, T, fz, g1, g2, g3, g4.mono hm, g5⟩
  · obtain ⟨es', cl, g1, g2, g3⟩ := hr.maps A l es hes (hback A l _ hes hA)
    exact ⟨es', cl, g1, g2, g3.mono fun a b hab => ⟨hab.1.mono hm, hab.2.mono hm⟩⟩
theorem push_new (hr : HRel P base ρ h w) (wf : HWF h) (hρ : ρ h.next = none) (hB : Below w.heap.size w w') {b : NBlk} {g : Nat} {obj : Obj} (hg : w.heap.size ≤ g) (ho : w'.heap[g]? = some obj) (hobj : ObjOK ρ b obj) :
    HRel P base (upd ρ h.next ⟨g, 0, zO obj⟩) (h.push b) w' ∧ HWF (h.push b) ∧ Ext base ρ h w (upd ρ h.next ⟨g, 0, zO obj⟩) (h.push b) w' := by
  have hm := zAA (l := (⟨g, 0, zO obj⟩ : Loc)) hρ
  have hfr := (wf.fresh h.next (Nat.le_refl _)).1
  have hlt : g < w'.heap.size := (Array.getElem?_eq_some_iff.1 ho).1
  have h1 : HRel P base (upd ρ h.next ⟨g, 0, zO obj⟩) h w' := (hr.below hB).name hfr hρ hlt
  have h2 : Pend base (upd ρ h.next ⟨g, 0, zO obj⟩) w' h.next b := ⟨⟨g, 0, zO obj⟩, obj, zU, rfl, ho, hobj.mono hm, rfl, by simp only; have := hr.le; omega, fun A L' hA hne => by
    rw [zG hne] at hA
    have := hr.bnd A L' hA
    simp only; omega⟩
  have h3 := h1.adopt h2 hfr (fun A c hc e => by have := (wf.fam A c hc).1; omega)
  refine ⟨h3.congr (fun A => by rw [z8]) (fun A => by rw [z8]), wf.push b, hm, fun A hA => ?_, by rw [z6]; omega, fun A hA hs => ?_, fun A hA _ => ⟨by rw [z7, if_neg (by omega)], zAK h b A (by omega)⟩, hB.mono hr.le, fun r hr' _ => hB.block r hr', fun A l hA hn => ?_⟩
  · by_cases e : A = h.next
    · subst e; rw [z6]; omega
    · exact absurd (zG e) hA
  · rw [z7, if_neg (by omega)] at hs; exact hs
  · by_cases e : A = h.next
    · subst e; rw [zU] at hA; cases hA; exact .inl hg
    · rw [zG e, hn] at hA; cases hA
def cloneG : Prim
  | [.map none], h => some (.map none, h)
  | [.map (some r)], h => match h.blks.get r with
    | some (.map es) => some (.map (some h.next), (h.push .map).setBlk h.next (.map es))
    | _ => none
  | _, _ => none
theorem cloneG_some {args : List Value} {h h' : Heap} {v : Value} (hr : cloneG args h = some (v, h')) : (args = [.map none] ∧ v = .map none ∧ h' = h) ∨
    ∃ r es, args = [.map (some r)] ∧ h.blks.get r = some (.map es) ∧ v = .map (some h.next) ∧ h' = (h.push .map).setBlk h.next (.map es) := by
  unfold cloneG at hr
  split at hr
  · cases hr; exact .inl ⟨rfl, rfl, rfl⟩
  · split at hr
    · rename_i hes
      simp only [Option.some.injEq, Prod.mk.injEq] at hr
      exact .inr ⟨_, _, rfl, hes, hr.1.symm, hr.2.symm⟩
    · cases hr
  · cases hr
theorem Tab.clone {l : List (Nat × Prim)} (ok : XOK P (Tab P l)) {f : Nat} (hcl : zAF P f)
    (h1 : ∀ (b : Nat) (es : Array MapEntry) (clock : Nat) (w : World), w.heap[b]? = some (.map es clock) → Calls P f #[.map (some b)] w fun e w' => e = .returned (.map (some w.heap.size)) ∧ w' = w.alloc (.map es clock))
    (h2 : ∀ w : World, Calls P f #[.map none] w fun e w' => e = .returned (.map none) ∧ w' = w) : XOK P (Tab P ((f, cloneG) :: l)) := by
  refine Tab.cons ok fun args h v h' hr => ?_
  rcases cloneG_some hr with ⟨rfl, rfl, rfl⟩ | ⟨r, es, rfl, hes, rfl, rfl⟩
  · refine ⟨hcl, Nat.le_refl _, fun base ρ w args' hrel wf _ hargs => ?_⟩
    cases hargs with
    | cons a b =>
      cases a; cases b
      refine (h2 w).mono fun e w' hq => ?_
      obtain ⟨rfl, rfl⟩ := hq
      exact ⟨_, ρ, rfl, hrel, wf, Ext.refl _ _ _ _, .nilmap⟩
  · refine ⟨hcl, by show h.next ≤ h.next + 1; omega, fun base ρ w args' hrel wf hpre hargs => ?_⟩
    cases hargs with
    | cons a b =>
      cases a; cases b
      rename_i L hL
      obtain ⟨es', cl, g1, g2, g3⟩ := hrel.maps r L es hes hL
      refine (h1 L.b es' cl w g1).mono fun e w' hq => ?_
      obtain ⟨rfl, rfl⟩ := hq
      have hρ : ρ h.next = none := hpre h.next (Nat.le_refl _) (by show h.next < h.next + 1; omega)
      have hB : Below w.heap.size w (w.alloc (.map #[] 0)) := (Below.refl _ w).alloc (Nat.le_refl _) _
      obtain ⟨s1, s2, s3⟩ := push_new (b := .map) (g := w.heap.size) (obj := .map #[] 0) hrel wf hρ hB (Nat.le_refl _) (World.alloc_heap_new w _) rfl
      have hL1 : upd ρ h.next ⟨w.heap.size, 0, zO (.map #[] 0)⟩ h.next = some ⟨w.heap.size, 0, zO (.map #[] 0)⟩ := zU
      have hm := zAA (l := (⟨w.heap.size, 0, zO (.map #[] 0)⟩ : Loc)) hρ
      obtain ⟨z1, z2, z3⟩ := map_step (r := h.next) (es := []) (fs := es) (es' := #[]) (fs' := es') (cl := 0) (cl' := cl) s1 s2 (by rw [z7, if_pos rfl]; rfl) hL1 (World.alloc_heap_new w _) (by simp only; exact hrel.le) (g3.mono fun a b hab => ⟨hab.1.mono hm, hab.2.mono hm⟩) (hrel.loops.stamps r L es es' cl hes hL g1)
      have hw : ({ (w.alloc (.map #[] 0)) with heap := (w.alloc (.map #[] 0)).heap.setIfInBounds w.heap.size (.map es' cl) } : World) = w.alloc (.map es' cl) := by
        have : (w.heap.push (Obj.map #[] 0)).setIfInBounds w.heap.size (.map es' cl) = w.heap.push (.map es' cl) := by
          apply Array.ext_getElem?
          intro i
          by_cases hi : i = w.heap.size
          · subst hi; simp
          · rw [Array.getElem?_setIfInBounds_ne (Ne.symm hi), Array.getElem?_push, Array.getElem?_push, if_neg hi, if_neg hi]
        show ({ w with heap := (w.heap.push (Obj.map #[] 0)).setIfInBounds w.heap.size (.map es' cl) } : World) = { w with heap := w.heap.push (.map es' cl) }
        rw [this]
      simp only at z1 z3
      rw [hw] at z1 z3
      exact ⟨_, _, rfl, z1, z2, Ext.trans s2 (fun A k1 k2 => hpre A k1 k2) s3 z3, .map hL1⟩
def strsOf : List (Value × Value) → Option (List (List UInt8))
  | [] => some []
  | (.string s, _) :: r => match strsOf r with | some l => some (s.data.toList :: l) | none => none
  | _ :: _ => none
def leS : List UInt8 → List UInt8 → Bool
  | [], _ => true
  | _ :: _, [] => false
  | a :: as', b :: bs => if a.toNat < b.toNat then true else if b.toNat < a.toNat then false else leS as' bs
def insS (x : List UInt8) : List (List UInt8) → List (List UInt8)
  | [] => [x]
  | y :: l => if leS x y then x :: y :: l else y :: insS x l
def isort : List (List UInt8) → List (List UInt8)
  | [] => []
  | x :: l => insS x (isort l)
theorem leS_eq : ∀ a b : List UInt8, leS a b = decide (a ≤ b)
  | [], b => by simp [leS]
  | a :: as', [] => by simp [leS]
  | a :: as', b :: bs => by
    simp only [leS]
    have ih := leS_eq as' bs
    by_cases h1 : a.toNat < b.toNat
    · rw [if_pos h1]
      have : a < b := UInt8.lt_iff_toNat_lt.2 h1
      simp [List.cons_le_cons_iff, this]
    · rw [if_neg h1]
      by_cases h2 : b.toNat < a.toNat
      · rw [if_pos h2]
        have h3 : ¬ a < b := fun h => h1 (UInt8.lt_iff_toNat_lt.1 h)
        have h4 : a ≠ b := fun e => by subst e; omega
        simp [List.cons_le_cons_iff, h3, h4]
      · rw [if_neg h2]
        have h4 : a = b := UInt8.toNat_inj.1 (by omega)
        subst h4
        rw [ih]
        simp [List.cons_le_cons_iff]
theorem insS_perm (x : List UInt8) : ∀ l, (insS x l).Perm (x :: l)
  | [] => List.Perm.refl _
  | y :: l => by
    simp only [insS]
    split
    · exact List.Perm.refl _
    · exact ((insS_perm x l).cons y).trans (List.Perm.swap x y l)
theorem isort_perm : ∀ l, (isort l).Perm l
  | [] => List.Perm.refl _
  | x :: l => (insS_perm x _).trans ((isort_perm l).cons x)
theorem insS_sorted (x : List UInt8) : ∀ l : List (List UInt8), l.Pairwise (· ≤ ·) → (insS x l).Pairwise (· ≤ ·)
  | [], _ => by simp [insS]
  | y :: l, hl => by
    simp only [insS]
    rw [List.pairwise_cons] at hl
    split
    · rename_i hxy
      rw [leS_eq, decide_eq_true_eq] at hxy
      refine List.pairwise_cons.2 ⟨fun z hz => ?_, List.pairwise_cons.2 hl⟩
      rcases List.mem_cons.1 hz with rfl | hz
      · exact hxy
      · exact List.le_trans hxy (hl.1 z hz)
    · rename_i hxy
      rw [leS_eq, decide_eq_true_eq] at hxy
      have hyx : y ≤ x := (List.le_total x y).resolve_left hxy
      refine List.pairwise_cons.2 ⟨fun z hz => ?_, insS_sorted x l hl.2⟩
      rcases List.mem_cons.1 ((insS_perm x l).mem_iff.1 hz) with rfl | hz
      · exact hyx
      · exact hl.1 z hz
theorem isort_sorted : ∀ l, (isort l).Pairwise (· ≤ ·)
  | [] => List.Pairwise.nil
  | x :: l => insS_sorted x _ (isort_sorted l)
theorem isort_eq {l m : List (List UInt8)} (hp : m.Perm l) : m.mergeSort (fun x y => decide (x ≤ y)) = isort l := by
  have tr : ∀ a b c : List UInt8, decide (a ≤ b) = true → decide (b ≤ c) = true → decide (a ≤ c) = true := fun a b c h1 h2 => by simp only [decide_eq_true_eq] at *; exact List.le_trans h1 h2
  have to : ∀ a b : List UInt8, (decide (a ≤ b) || decide (b ≤ a)) = true := fun a b => by simp only [Bool.or_eq_true, decide_eq_true_eq]; exact List.le_total a b
  refine List.Perm.eq_of_pairwise (le := fun a b => decide (a ≤ b) = true) (fun a b _ _ h1 h2 => ?_) (List.pairwise_mergeSort tr to m) ((isort_sorted l).imp fun h => by simpa using h) (((List.mergeSort_perm m _).trans hp).trans (isort_perm l).symm)
  simp only [decide_eq_true_eq] at h1 h2
  exact List.le_antisymm h1 h2
def nodupB : List (List UInt8) → Bool
  | [] => true
  | x :: l => !(l.any fun y => x == y) && nodupB l
theorem nodupB_nodup : ∀ {l : List (List UInt8)}, nodupB l = true → l.Nodup
  | [], _ => .nil
  | x :: l, h => by
    simp only [nodupB, Bool.and_eq_true, Bool.not_eq_true', List.any_eq_false] at h
    exact List.nodup_cons.2 ⟨fun hin => h.1 x hin (by simp), nodupB_nodup h.2⟩
def sortedOut (ks : List (List UInt8)) (h : Heap) : Option (Value × Heap) :=
  match isort ks with
  | [] => some (.slice none 0 0, h)
  | s => some (.slice (some ⟨h.next, 0, some 1⟩) s.length s.length, h.push (.cells (s.map fun l => .string (strOf l))))
def keysAt (a : Addr) (h : Heap) : Option (List (List UInt8)) :=
  match h.okCells a.block with
  | some c => cond (c.fam.beq a.block && c.delta.beq 0 && !c.ro && a.off.beq 0)
    (match c.cells with
     | [.map none] => some []
     | [.map (some r)] => match h.blks.get r with
       | some (.map es) => match strsOf es with
         | some ks => cond (nodupB ks && ks.length.ble 1000000000 && ks.all (fun k => k.length.ble roomX)) (some ks) none
         | none => none
       | _ => none
     | _ => none) none
  | none => none
def sortedG (ks : List Nat) : Prim
  | [.func (.func g) first caps], h => cond (ks.any (fun k => g.beq k) && first.isEmpty) (match caps.toList with
    | [.pointer (some a)] => match keysAt a h with
      | some l => sortedOut l h
      | none => none
    | _ => none) none
  | _, _ => none
theorem strsOf_rel {es : List (Value × Value)} {es' : List MapEntry} (hr : All2 (ERel ρ) es es') : ∀ {ks}, strsOf es = some ks → es'.map (·.key) = ks.map encStr := by
  induction hr with
  | nil => intro ks hk; cases hk; rfl
  | @cons a b es es' hab _ ih =>
    intro ks hk
    obtain ⟨k, v⟩ := a
    unfold strsOf at hk
    split at hk
    · rename_i heq; cases heq
    · rename_i s v' r heq
      cases heq
      split at hk
      · rename_i l hl
        cases hk
        obtain ⟨h1, _⟩ := hab
        have h1' : VRel ρ (.string s) b.key := h1
        cases hb : b.key <;> rw [hb] at h1' <;> cases h1'
        rw [List.map_cons, List.map_cons, ih hl, hb]
      · cases hk
    · cases hk
end
end Go.X
end
section
namespace Go.X
open Go.RowKit Go.Maps
open Go.Proofs (encStr)
open Go.WideElems (Fit rd rg rg_of)
set_option linter.unusedVariables false
section
variable {P : Program} {ρ : Ren} {base : Nat} {h : Heap} {w w' : World}
def SortOut (K : TypeId) (S : List (List UInt8) → Prop) (w : World) (e : Ending) (w' : World) : Prop :=
  ∃ (v : Value) (ss : List (List UInt8)), e = .returned v ∧ S ss ∧ w'.ownsRow w.heap.size K 1 v ss.length ((ss.mergeSort (fun x y => decide (x ≤ y))).map encStr) ∧ (v = .slice none 0 0 ↔ ss = []) ∧ Below w.heap.size w w'
theorem keysAt_some {a : Addr} {ks : List (List UInt8)} (hk : keysAt a h = some ks) : ∃ c, h.okCells a.block = some c ∧ c.fam = a.block ∧ c.delta = 0 ∧ c.ro = false ∧ a.off = 0 ∧
    ((c.cells = [.map none] ∧ ks = []) ∨ ∃ r es, c.cells = [.map (some r)] ∧ h.blks.get r = some (.map es) ∧ strsOf es = some ks ∧ nodupB ks = true ∧ ks.length ≤ 1000000000 ∧ ∀ k ∈ ks, k.length ≤ roomX) := by
  unfold keysAt at hk
  split at hk
  · rename_i c hc
    cases hb : (c.fam.beq a.block && c.delta.beq 0 && !c.ro && a.off.beq 0) with
    | false => rw [hb] at hk; cases hk
    | true =>
      rw [hb] at hk
      simp only [Bool.and_eq_true, Bool.not_eq_true'] at hb
      obtain ⟨⟨⟨b1, b2⟩, b3⟩, b4⟩ := hb
      refine ⟨c, hc, Nat.eq_of_beq_eq_true b1, Nat.eq_of_beq_eq_true b2, b3, Nat.eq_of_beq_eq_true b4, ?_⟩
      simp only [cond_true] at hk
      split at hk
      · rename_i hcc; cases hk; exact .inl ⟨hcc, rfl⟩
      · rename_i r hcc
        split at hk
        · rename_i es hes
          split at hk
          · rename_i l hl
            cases hq : (nodupB l && l.length.ble 1000000000 && l.all (fun k => k.length.ble roomX)) with
            | false => rw [hq] at hk; cases hk
            | true =>
              rw [hq] at hk
              cases hk
              simp only [Bool.and_eq_true, List.all_eq_true] at hq
              exact .inr ⟨r, es, hcc, hes, hl, hq.1.1, Nat.le_of_ble_eq_true hq.1.2, fun k hk => Nat.le_of_ble_eq_true (hq.2 k hk)⟩
          · cases hk
        · cases hk
      · cases hk
  · cases hk
theorem sortedG_some {gs : List Nat} {args : List Value} {h' : Heap} {v : Value} (hr : sortedG gs args h = some (v, h')) :
    ∃ g first caps a ks, args = [.func (.func g) first caps] ∧ g ∈ gs ∧ first.size = 0 ∧ caps.toList = [.pointer (some a)] ∧ keysAt a h = some ks ∧ sortedOut ks h = some (v, h') := by
  unfold sortedG at hr
  split at hr
  · rename_i g first caps
    cases hb : (gs.any (fun k => g.beq k) && first.isEmpty) with
    | false => rw [hb] at hr; cases hr
    | true =>
      rw [hb] at hr
      simp only [Bool.and_eq_true, List.any_eq_true] at hb
      obtain ⟨⟨k, hk, hgk⟩, hf⟩ := hb
      obtain rfl := Nat.eq_of_beq_eq_true hgk
      simp only [cond_true] at hr
      split at hr
      · rename_i a hcap
        split at hr
        · rename_i l hl
          exact ⟨_, _, _, _, _, rfl, hk, by simpa using hf, hcap, hl, hr⟩
        · cases hr
      · cases hr
  · cases hr
def bytesV : Value → List UInt8
  | .string s => s.data.toList
  | _ => []
theorem fit_of {K : TypeId} (hK : P.underlying K = some .string) {es' : Array MapEntry} {cl : Nat} {ks : List (List UInt8)} (hk : es'.toList.map (·.key) = ks.map encStr) (hst : Stamps es' cl) (hnd : nodupB ks = true) (hl : ks.length ≤ 1000000000) (hb : ∀ k ∈ ks, k.length ≤ roomX) :
    Fit (H := Unit) P K (fun _ => some (.nil, [])) es' cl ∧ es'.toList.map (fun x => Go.strOf (rg (H := Unit) P K (fun _ => some (.nil, [])) x).1) = ks := by
  have hlen : es'.size = ks.length := by
    have := congrArg List.length hk
    simpa using this
  have hrd : ∀ x ∈ es'.toList, ∃ k ∈ ks, x.key = encStr k ∧ rd (H := Unit) P K (fun _ => some (.nil, [])) x = some (.string k, .nil) := fun x hx => by
    have hx' : x.key ∈ ks.map encStr := by rw [← hk]; exact List.mem_map_of_mem hx
    obtain ⟨k, hkk, hxk⟩ := List.mem_map.1 hx'
    refine ⟨k, hkk, hxk.symm, ?_⟩
    have hkl : k.length ≤ maxLen := by have := hb k hkk; unfold roomX at this; unfold maxLen; omega
    have hkey : keyOf P K x.key = some (.string k) := by
      rw [← hxk]
      simp only [keyOf, hK, mapKey, encStr]
      rw [if_pos (by simpa [ByteArray.size] using hkl)]
    simp [rd, hkey]
  refine ⟨⟨by rw [hlen]; unfold maxLen; omega, ⟨hst.1, hst.2, ?_⟩, fun x hx => by obtain ⟨k, _, _, h⟩ := hrd x hx; exact ⟨_, h⟩⟩, ?_⟩
  · rw [hk]
    exact List.pairwise_map.2 ((nodupB_nodup hnd).imp fun hne e => hne (encStr_inj e))
  · have e1 : es'.toList.map (fun x => Go.strOf (rg (H := Unit) P K (fun _ => some (.nil, [])) x).1) = (es'.toList.map (·.key)).map bytesV := by
      rw [List.map_map]
      refine List.map_congr_left fun x hx => ?_
      obtain ⟨k, _, h1, h2⟩ := hrd x hx
      simp only [Function.comp, rg_of h2, h1, encStr, bytesV, Go.strOf]
    rw [e1, hk, List.map_map]
    conv => rhs; rw [← List.map_id ks]
    exact List.map_congr_left fun k _ => rfl
theorem Tab.sorted {l : List (Nat × Prim)} (ok : XOK P (Tab P l)) {f : Nat} {gs : List Nat} {K : TypeId} (hK : P.underlying K = some .string) (hcl : zAF P f)
    (h1 : ∀ g ∈ gs, ∀ (b nn Bm : Nat) (D0 : DataW Unit) (R : Value → Option (DataW Unit × List MemPlace)) (w : World), w.ownsMap P K R b nn D0 → Maps.size D0 ≤ maxLen → Maps.size D0 * 16 ≤ 140737488355328 → Bm < w.heap.size → w.cell? ⟨Bm, 0, none⟩ = some (.map (some b)) →
      Calls P f #[.func (.func g) #[] #[.pointer (some ⟨Bm, 0, none⟩)]] w (SortOut K (fun ss => ss.Perm (strKeys D0)) w))
    (h2 : ∀ g ∈ gs, ∀ (Bm : Nat) (w : World), Bm < w.heap.size → w.cell? ⟨Bm, 0, none⟩ = some (.map none) → Calls P f #[.func (.func g) #[] #[.pointer (some ⟨Bm, 0, none⟩)]] w (SortOut K (fun ss => ss = []) w)) : XOK P (Tab P ((f, sortedG gs) :: l)) := by
  refine Tab.cons ok fun args h v h' hr => ?_
  obtain ⟨g, first, caps, a, ks, rfl, hg, hf, hcap, hks, hout⟩ := sortedG_some hr
  have hnext : h.next ≤ h'.next := by
    unfold sortedOut at hout
    split at hout
    · cases hout; exact Nat.le_refl _
    · cases hout; rw [z6]; exact Nat.le_succ _
  refine ⟨hcl, hnext, fun base ρ w args' hrel wf hpre hargs => ?_⟩
  cases hargs with
  | cons ha hnil =>
    cases hnil
    cases ha
    rename_i first' caps' a1 b1 a2 b2
    have hfe : first' = #[] := Array.eq_empty_of_size_eq_zero (by rw [← a1]; exact hf)
    have hc2 := zAC a2 b2
    rw [hcap] at hc2
    obtain ⟨c, hok, hfam, hdel, hro, hoff, hcells⟩ := keysAt_some hks
    obtain ⟨L, hL, hcaps⟩ : ∃ L, ρ a.block = some L ∧ caps' = #[.pointer (some ⟨L.b, L.o + a.off, none⟩)] := by
      cases hq : caps'.toList with
      | nil => rw [hq] at hc2; cases hc2
      | cons x xs =>
        rw [hq] at hc2
        cases hc2 with
        | cons k1 k2 =>
          cases k2
          cases k1
          rename_i L hL
          exact ⟨L, hL, by apply Array.ext'; rw [hq]⟩
    have hLo : L.o = 0 := hrel.loops.root a.block L ⟨c, (okCells_iff.1 hok).1, hfam, hdel, hro⟩ hL
    rw [hLo, hoff] at hcaps
    have hlt := hrel.bnd _ _ hL
    subst hfe hcaps
    have fin : ∀ (S : List (List UInt8) → Prop), (∀ ss, S ss → ss.Perm ks) → ∀ e w', SortOut K S w e w' → ∃ v' ρ', e = .returned v' ∧ HRel P base ρ' h' w' ∧ HWF h' ∧ Ext base ρ h w ρ' h' w' ∧ VRel ρ' v v' := by
      rintro S hS e w' ⟨v0, ss, rfl, hss, hrow, hnil, hB⟩
      have hp := hS ss hss
      have hms := isort_eq hp
      rw [hms] at hrow
      have hlen : (isort ks).length = ss.length := (isort_perm ks).length_eq.trans hp.length_eq.symm
      unfold sortedOut at hout
      split at hout
      · rename_i he
        cases hout
        have hs0 : ss = [] := List.eq_nil_of_length_eq_zero (by rw [← hlen, he]; rfl)
        have hv := hnil.2 hs0
        subst hv
        exact ⟨_, ρ, rfl, hrel.below hB, wf, ⟨fun _ _ h => h, fun _ h => absurd rfl h, Nat.le_refl _, fun _ _ h => h, fun _ _ _ => ⟨rfl, rfl⟩, hB.mono hrel.le, fun r h1 _ => hB.block r h1, fun A l h1 h2 => by rw [h1] at h2; cases h2⟩, .nilslice⟩
      · rename_i s hne
        simp only [Option.some.injEq, Prod.mk.injEq] at hout
        obtain ⟨rfl, rfl⟩ := hout
        have hss0 : ss ≠ [] := fun e => hne (List.eq_nil_of_length_eq_zero (by rw [hlen, e]; rfl))
        rcases hrow.2 with ⟨hv, hz⟩ | ⟨gb, cap, cur, rfl, hbase, hgb, r1, r2, r3, r4⟩
        · exact absurd (List.eq_nil_of_length_eq_zero hz) hss0
        · have hρ : ρ h.next = none := hpre h.next (Nat.le_refl _) (by rw [z6]; exact Nat.lt_succ_self _)
          have hcl' : ((isort ks).map fun l => Value.string (strOf l)).length = ss.length := by simp [hlen]
          obtain ⟨s1, s2, s3⟩ := push_new (b := .cells ((isort ks).map fun l => .string (strOf l))) hrel wf hρ hB hbase hgb ⟨cur, K, (0, 0), rfl, by rw [hcl', r3]; omega, by
            rw [hcl']
            rw [Nat.mul_one] at r4
            rw [r4]
            refine All2.refl_of _ fun x hx => ?_
            obtain ⟨y, _, rfl⟩ := List.mem_map.1 hx
            exact .string _, fun i _ hi => by omega⟩
          refine ⟨_, _, rfl, s1, s2, s3, ?_⟩
          rw [hlen]
          refine VRel.slice (off := 0) zU (Nat.le_refl _) r1 (fun _ => rfl) (fun hq => by cases hq) (fun q hq => ?_)
          cases hq
          show 0 + 0 + cap * 1 ≤ cur.size
          rw [r3]; omega
    obtain ⟨v1, hcell, hv1⟩ := hrel.cell (i := 0) (v := c.cells.getD 0 .nilFunc) hok hL (by rcases hcells with ⟨e, _⟩ | ⟨r, es, e, _⟩ <;> rw [e] <;> rfl)
    rw [hLo] at hcell
    rcases hcells with ⟨e, rfl⟩ | ⟨r, es, e, hes, hst, hnd, hl, hbd⟩
    · rw [e] at hv1
      cases hv1
      exact (h2 g hg L.b w hlt hcell).mono (fin _ fun ss hs => by rw [hs])
    · rw [e] at hv1
      cases hv1
      rename_i M hM
      obtain ⟨es', cl, m1, m2, m3⟩ := hrel.maps r M es hes hM
      obtain ⟨F, hkeys⟩ := fit_of hK (strsOf_rel m3 hst) (hrel.loops.stamps r M es es' cl hes hM m1) hnd hl hbd
      have hperm := Go.WideShapes.sorted_perm (es'.toList.map (rg (H := Unit) P K (fun _ => some (.nil, []))))
      have hsz : Maps.size (.map ((es'.toList.map (rg (H := Unit) P K (fun _ => some (.nil, [])))).foldr DataW.insert [])) = ks.length := by
        rw [Maps.size_eq, hperm.length_eq, List.length_map, ← hkeys, List.length_map]
      refine (h1 g hg M.b es'.size L.b _ _ w ⟨es', cl, m1, F, Nat.le_refl _, rfl⟩ (by rw [hsz]; unfold maxLen; omega) (by rw [hsz]; omega) hlt hcell).mono (fin _ fun ss hs => ?_)
      refine hs.trans ?_
      have := hperm.map (fun p => Go.strOf p.1)
      rw [List.map_map] at this
      rw [← hkeys]
      exact this
end
end Go.X
end
section
namespace Go.Proofs
open Go.Shelf
def Try.keys24_ren : Go.Shelf.Ren := ⟨fun | 7 => 24 | 10 => 41 | n => n, fun | 23 => 54 | 26 => 9 | 3 => 4 | 28 => 60 | 0 => 0 | 27 => 59 | 33 => 75 | 4 => 4 | n => n, fun | n => n⟩
theorem Try.keys24 : Go.Proofs.SlLaysZ.n7 Try.prog Try.keys24_ren := {
  mixed := by kernel_rfl
  f7 := ⟨Try.f24.name, by decide, Try.func24.trans (congrArg some (by kernel_rfl))⟩
  f10 := ⟨Try.f41.name, by decide, Try.func41.trans (congrArg some (by kernel_rfl))⟩
  t0 := Try.underlying0
  a0 := Try.isAgg0
  z0 := Try.sizeOf0
  v0 := Try.zeroValue0
  t4 := Try.underlying4
  a4 := Try.isAgg4
  z4 := Try.sizeOf4
  v4 := Try.zeroValue4
  t23 := Try.underlying54
  a23 := Try.isAgg54
  z23 := Try.sizeOf54
  v23 := Try.zeroValue54
  t26 := Try.underlying9
  a26 := Try.isAgg9
  z26 := Try.sizeOf9
  v26 := Try.zeroValue9
  t27 := Try.underlying59
  a27 := Try.isAgg59
  z27 := Try.sizeOf59
  v27 := Try.zeroValue59
  t28 := Try.underlying60
  a28 := Try.isAgg60
  z28 := Try.sizeOf60
  v28 := Try.zeroValue60
  t33 := Try.underlying75
  a33 := Try.isAgg75
  z33 := Try.sizeOf75
  v33 := Try.zeroValue75 }
def Try.keys26_ren : Go.Shelf.Ren := ⟨fun | 7 => 26 | 10 => 42 | n => n, fun | 23 => 48 | 26 => 9 | 3 => 9 | 28 => 60 | 0 => 0 | 27 => 59 | 33 => 75 | 4 => 4 | n => n, fun | n => n⟩
theorem Try.keys26 : Go.Proofs.SlLaysZ.n7 Try.prog Try.keys26_ren := {
  mixed := by kernel_rfl
  f7 := ⟨Try.f26.name, by decide, Try.func26.trans (congrArg some (by kernel_rfl))⟩
  f10 := ⟨Try.f42.name, by decide, Try.func42.trans (congrArg some (by kernel_rfl))⟩
  t0 := Try.underlying0
  a0 := Try.isAgg0
  z0 := Try.sizeOf0
  v0 := Try.zeroValue0
  t4 := Try.underlying4
  a4 := Try.isAgg4
  z4 := Try.sizeOf4
  v4 := Try.zeroValue4
  t23 := Try.underlying48
  a23 := Try.isAgg48
  z23 := Try.sizeOf48
  v23 := Try.zeroValue48
  t26 := Try.underlying9
  a26 := Try.isAgg9
  z26 := Try.sizeOf9
  v26 := Try.zeroValue9
  t27 := Try.underlying59
  a27 := Try.isAgg59
  z27 := Try.sizeOf59
  v27 := Try.zeroValue59
  t28 := Try.underlying60
  a28 := Try.isAgg60
  z28 := Try.sizeOf60
  v28 := Try.zeroValue60
  t33 := Try.underlying75
  a33 := Try.isAgg75
  z33 := Try.sizeOf75
  v33 := Try.zeroValue75 }
def Try.sorted23_ren : Go.Shelf.Ren := ⟨fun | 6 => 23 | 8 => 39 | 9 => 40 | 11 => 51 | 13 => 53 | 12 => 52 | 23 => 65 | 24 => 66 | 14 => 56 | 15 => 57 | 16 => 58 | 17 => 59 | 18 => 60 | 19 => 61 | 20 => 62 | 21 => 63 | 22 => 64 | 25 => 70 | 26 => 71 | 27 => 72 | 28 => 73 | 29 => 74 | 30 => 75 | 31 => 77 | n => n, fun | 26 => 9 | 28 => 60 | 24 => 32 | 0 => 0 | 3 => 3 | 37 => 52 | 48 => 87 | 50 => 22 | 4 => 4 | 40 => 95 | 39 => 94 | 45 => 99 | 5 => 5 | 9 => 9 | 51 => 107 | 55 => 111 | 57 => 113 | 58 => 114 | 33 => 75 | n => n, fun | n => n⟩
theorem Try.sorted23 : Go.Proofs.SlLaysZ.n6 Try.prog Try.sorted23_ren := {
  mixed := by kernel_rfl
  f6 := ⟨Try.f23.name, by decide, Try.func23.trans (congrArg some (by kernel_rfl))⟩
  f8 := ⟨Try.f39.name, by decide, Try.func39.trans (congrArg some (by kernel_rfl))⟩
  f11 := ⟨Try.f51.name, by decide, Try.func51.trans (congrArg some (by kernel_rfl))⟩
  t0 := Try.underlying0
  a0 := Try.isAgg0
  z0 := Try.sizeOf0
  v0 := Try.zeroValue0
  t24 := Try.underlying32
  a24 := Try.isAgg32
  z24 := Try.sizeOf32
  v24 := Try.zeroValue32
  t26 := Try.underlying9
  a26 := Try.isAgg9
  z26 := Try.sizeOf9
  v26 := Try.zeroValue9
  t28 := Try.underlying60
  a28 := Try.isAgg60
  z28 := Try.sizeOf60
  v28 := Try.zeroValue60
  i26 := by kernel_rfl }
def Try.sort40_ren : Go.Shelf.Ren := ⟨fun | 6 => 40 | 8 => 53 | 9 => 52 | 19 => 65 | 20 => 66 | 21 => 56 | 22 => 57 | 23 => 58 | 24 => 59 | 25 => 60 | 26 => 61 | 27 => 62 | 28 => 63 | 29 => 64 | 36 => 70 | 31 => 71 | 32 => 72 | 37 => 73 | 38 => 74 | 39 => 75 | 41 => 77 | n => n, fun | 27 => 32 | 29 => 9 | 3 => 3 | 32 => 52 | 26 => 32 | 0 => 0 | 44 => 87 | 46 => 22 | 4 => 4 | 36 => 95 | 35 => 94 | 41 => 99 | 5 => 5 | 9 => 9 | 53 => 107 | 57 => 111 | 63 => 113 | 64 => 114 | n => n, fun | n => n⟩
theorem Try.sort40 : Go.Proofs.SlLaysM.n6 Try.prog Try.sort40_ren := {
  mixed := by kernel_rfl
  f6 := ⟨Try.f40.name, by decide, Try.func40.trans (congrArg some (by kernel_rfl))⟩
  f8 := Try.func53.trans (congrArg some (by kernel_rfl))
  f9 := ⟨Try.f52.name, by decide, Try.func52.trans (congrArg some (by kernel_rfl))⟩
  f19 := Try.func65.trans (congrArg some (by kernel_rfl))
  f20 := Try.func66.trans (congrArg some (by kernel_rfl))
  f21 := ⟨Try.f56.name, by decide, Try.func56.trans (congrArg some (by kernel_rfl))⟩
  f22 := ⟨Try.f57.name, by decide, Try.func57.trans (congrArg some (by kernel_rfl))⟩
  f23 := ⟨Try.f58.name, by decide, Try.func58.trans (congrArg some (by kernel_rfl))⟩
  f24 := ⟨Try.f59.name, by decide, Try.func59.trans (congrArg some (by kernel_rfl))⟩
  f25 := ⟨Try.f60.name, by decide, Try.func60.trans (congrArg some (by kernel_rfl))⟩
  f26 := ⟨Try.f61.name, by decide, Try.func61.trans (congrArg some (by kernel_rfl))⟩
  f27 := ⟨Try.f62.name, by decide, Try.func62.trans (congrArg some (by kernel_rfl))⟩
  f28 := ⟨Try.f63.name, by decide, Try.func63.trans (congrArg some (by kernel_rfl))⟩
  f29 := ⟨Try.f64.name, by decide, Try.func64.trans (congrArg some (by kernel_rfl))⟩
  f31 := Try.func71.trans (congrArg some (by kernel_rfl))
  f32 := Try.func72.trans (congrArg some (by kernel_rfl))
  f36 := ⟨Try.f70.name, by decide, Try.func70.trans (congrArg some (by kernel_rfl))⟩
  f37 := ⟨Try.f73.name, by decide, Try.func73.trans (congrArg some (by kernel_rfl))⟩
  f38 := ⟨Try.f74.name, by decide, Try.func74.trans (congrArg some (by kernel_rfl))⟩
  f39 := ⟨Try.f75.name, by decide, Try.func75.trans (congrArg some (by kernel_rfl))⟩
  f41 := ⟨Try.f77.name, by decide, Try.func77.trans (congrArg some (by kernel_rfl))⟩
  t0 := Try.underlying0
  a0 := Try.isAgg0
  z0 := Try.sizeOf0
  v0 := Try.zeroValue0
  t3 := Try.underlying3
  a3 := Try.isAgg3
  z3 := Try.sizeOf3
  v3 := Try.zeroValue3
  t4 := Try.underlying4
  a4 := Try.isAgg4
  z4 := Try.sizeOf4
  v4 := Try.zeroValue4
  t5 := Try.underlying5
  a5 := Try.isAgg5
  z5 := Try.sizeOf5
  v5 := Try.zeroValue5
  t9 := Try.underlying9
  a9 := Try.isAgg9
  z9 := Try.sizeOf9
  v9 := Try.zeroValue9
  t26 := Try.underlying32
  a26 := Try.isAgg32
  z26 := Try.sizeOf32
  v26 := Try.zeroValue32
  t27 := Try.underlying32
  a27 := Try.isAgg32
  z27 := Try.sizeOf32
  v27 := Try.zeroValue32
  t29 := Try.underlying9
  a29 := Try.isAgg9
  z29 := Try.sizeOf9
  v29 := Try.zeroValue9
  t32 := Try.underlying52
  a32 := Try.isAgg52
  z32 := Try.sizeOf52
  v32 := Try.zeroValue52
  t35 := Try.underlying94
  a35 := Try.isAgg94
  z35 := Try.sizeOf94
  v35 := Try.zeroValue94
  t36 := Try.underlying95
  a36 := Try.isAgg95
  z36 := Try.sizeOf95
  v36 := Try.zeroValue95
  t41 := Try.underlying99
  a41 := Try.isAgg99
  z41 := Try.sizeOf99
  v41 := Try.zeroValue99
  t44 := Try.underlying87
  a44 := Try.isAgg87
  z44 := Try.sizeOf87
  v44 := Try.zeroValue87
  t46 := Try.underlying22
  a46 := Try.isAgg22
  z46 := Try.sizeOf22
  v46 := Try.zeroValue22
  t53 := Try.underlying107
  a53 := Try.isAgg107
  z53 := Try.sizeOf107
  v53 := Try.zeroValue107
  t57 := Try.underlying111
  a57 := Try.isAgg111
  z57 := Try.sizeOf111
  v57 := Try.zeroValue111
  t63 := Try.underlying113
  a63 := Try.isAgg113
  z63 := Try.sizeOf113
  v63 := Try.zeroValue113
  t64 := Try.underlying114
  a64 := Try.isAgg114
  z64 := Try.sizeOf114
  v64 := Try.zeroValue114 }
def Try.clone27_ren : Go.Shelf.Ren := ⟨fun | 5 => 27 | 7 => 43 | n => n, fun | 23 => 48 | 25 => 9 | 3 => 9 | 4 => 4 | 20 => 20 | n => n, fun | n => n⟩
theorem Try.clone27 : Go.Proofs.SlLaysW.n5 Try.prog Try.clone27_ren := {
  mixed := by kernel_rfl
  f5 := ⟨Try.f27.name, by decide, Try.func27.trans (congrArg some (by kernel_rfl))⟩
  f7 := Try.func43.trans (congrArg some (by kernel_rfl))
  t4 := Try.underlying4
  a4 := Try.isAgg4
  z4 := Try.sizeOf4
  v4 := Try.zeroValue4
  t20 := Try.underlying20
  a20 := Try.isAgg20
  z20 := Try.sizeOf20
  v20 := Try.zeroValue20
  t23 := Try.underlying48
  a23 := Try.isAgg48
  z23 := Try.sizeOf48
  v23 := Try.zeroValue48 }
end Go.Proofs
namespace Go.X
open Go Go.Proofs Go.RowKit Go.Maps Go.Sort Go.Shelf
theorem sorts23 (m : Nat) : AnyZ.SortsIn Try.prog Try.sorted23_ren Fence.wide m :=
  ⟨fun blk off cap ss W hH hblk hsz => callsIn_wide.2 (AnyM.slices_Sort_string Try.sort40 blk off cap ss W hH hblk hsz),
   fun p cap W => callsIn_wide.2 (AnyM.slices_Sort_string_none Try.sort40 p cap W)⟩
theorem sortK24 (b nn Bm : Nat) (D0 : DataW Unit) (R : Value → Option (DataW Unit × List MemPlace)) (w : World) (hown : w.ownsMap Try.prog 9 R b nn D0) (hmax : Maps.size D0 ≤ maxLen) (hbytes : Maps.size D0 * 16 ≤ 140737488355328) (hlt : Bm < w.heap.size) (hc : w.cell? ⟨Bm, 0, none⟩ = some (.map (some b))) :
    Calls Try.prog 23 #[.func (.func 41) #[] #[.pointer (some ⟨Bm, 0, none⟩)]] w (SortOut 9 (fun ss => ss.Perm (strKeys D0)) w) := by
  have hseq := AnyZ.keys_gives (ρ := Try.keys24_ren) { Try.keys24 with } Fence.wide 2 trivial rfl (by omega) Bm b nn D0 w hlt hc hown
  exact (callsIn_wide (n := 5)).1 (AnyZ.sorted_in Try.sorted23 Fence.wide 5 trivial trivial trivial trivial rfl (by omega) (sorts23 _) (enters_of Try.func40 (by kernel_rfl) rfl) 41 _ trivial (enters_of Try.func41 (by kernel_rfl) rfl) _ _ hmax hbytes w hseq)
theorem sortN24 (Bm : Nat) (w : World) (hlt : Bm < w.heap.size) (hc : w.cell? ⟨Bm, 0, none⟩ = some (.map none)) :
    Calls Try.prog 23 #[.func (.func 41) #[] #[.pointer (some ⟨Bm, 0, none⟩)]] w (SortOut 9 (fun ss => ss = []) w) := by
  have hseq := AnyZ.keys_gives_nil (ρ := Try.keys24_ren) { Try.keys24 with } Fence.wide 2 trivial rfl Bm w hlt hc
  exact (callsIn_wide (n := 5)).1 (AnyZ.sorted_in Try.sorted23 Fence.wide 5 trivial trivial trivial trivial rfl (by omega) (sorts23 _) (enters_of Try.func40 (by kernel_rfl) rfl) 41 _ trivial (enters_of Try.func41 (by kernel_rfl) rfl) _ 0 (Nat.zero_le _) (by omega) w hseq)
theorem sortK26 (b nn Bm : Nat) (D0 : DataW Unit) (R : Value → Option (DataW Unit × List MemPlace)) (w : World) (hown : w.ownsMap Try.prog 9 R b nn D0) (hmax : Maps.size D0 ≤ maxLen) (hbytes : Maps.size D0 * 16 ≤ 140737488355328) (hlt : Bm < w.heap.size) (hc : w.cell? ⟨Bm, 0, none⟩ = some (.map (some b))) :
    Calls Try.prog 23 #[.func (.func 42) #[] #[.pointer (some ⟨Bm, 0, none⟩)]] w (SortOut 9 (fun ss => ss.Perm (strKeys D0)) w) := by
  have hseq := AnyZ.keys_gives (ρ := Try.keys26_ren) { Try.keys26 with } Fence.wide 2 trivial rfl (by omega) Bm b nn D0 w hlt hc hown
  exact (callsIn_wide (n := 5)).1 (AnyZ.sorted_in Try.sorted23 Fence.wide 5 trivial trivial trivial trivial rfl (by omega) (sorts23 _) (enters_of Try.func40 (by kernel_rfl) rfl) 42 _ trivial (enters_of Try.func42 (by kernel_rfl) rfl) _ _ hmax hbytes w hseq)
theorem sortN26 (Bm : Nat) (w : World) (hlt : Bm < w.heap.size) (hc : w.cell? ⟨Bm, 0, none⟩ = some (.map none)) :
    Calls Try.prog 23 #[.func (.func 42) #[] #[.pointer (some ⟨Bm, 0, none⟩)]] w (SortOut 9 (fun ss => ss = []) w) := by
  have hseq := AnyZ.keys_gives_nil (ρ := Try.keys26_ren) { Try.keys26 with } Fence.wide 2 trivial rfl Bm w hlt hc
  exact (callsIn_wide (n := 5)).1 (AnyZ.sorted_in Try.sorted23 Fence.wide 5 trivial trivial trivial trivial rfl (by omega) (sorts23 _) (enters_of Try.func40 (by kernel_rfl) rfl) 42 _ trivial (enters_of Try.func42 (by kernel_rfl) rfl) _ 0 (Nat.zero_le _) (by omega) w hseq)
theorem callable_body {P : Program} {f : Nat} {fn : Func} (hf : P.funcs[f]? = some fn) (hn : (fn.name == "runtime.NumGoroutine") = false) (hb : fn.body.isSome = true) : zAF P f := ⟨fn, hf, by simpa using hn, hb⟩
def tabM : List (Nat × Prim) := [(23, sortedG [41, 42]), (27, cloneG)]
theorem okM : XOK Try.prog (Tab Try.prog tabM) := by
  refine Tab.sorted (K := 9) (Tab.clone (Tab.nil (by kernel_rfl)) (callable_body Try.func27 (by kernel_rfl) rfl) (fun b es cl w hb => AnyW.maps_Clone Try.clone27 b es cl w hb) (fun w => AnyW.maps_Clone_nil Try.clone27 w)) Try.underlying9 (callable_body Try.func23 (by kernel_rfl) rfl) ?_ ?_
  · intro g hg
    simp only [List.mem_cons, List.not_mem_nil, or_false] at hg
    rcases hg with rfl | rfl
    · exact sortK24
    · exact sortK26
  · intro g hg
    simp only [List.mem_cons, List.not_mem_nil, or_false] at hg
    rcases hg with rfl | rfl
    · exact sortN24
    · exact sortN26
end Go.X
end
