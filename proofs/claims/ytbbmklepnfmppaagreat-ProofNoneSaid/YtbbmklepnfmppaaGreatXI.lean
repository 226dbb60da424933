/- The functions of the library on maps, told; the contracts of the shelf laid at this program. -/
import Derived.Laws.AppendOwn
import Derived.Sort.KeysCollected
import Derived.Shelf.Strings.Repeat
import Derived.Shelf.SlIter.Nil
import Derived.Shelf.SortM.Plain
import Derived.Shelf.SortM.SortNone
import Derived.Shelf.SlMaps.Clone
import Derived.Test.YtbbmklepnfmppaaGreatProg
import Derived.Test.YtbbmklepnfmppaaGreatXC
set_option linter.unusedSimpArgs false
set_option linter.unusedVariables false
set_option maxHeartbeats 2000000
section
namespace Go.X
open Go.RowKit Go.Maps
open Go.Proofs (encStr)
set_option linter.unusedVariables false
section
variable {P : Program} {ρ : Ren} {base : Nat} {h : Heap} {w w' : World}
theorem HRel.name (hr : HRel P base ρ h w) {id : Nat} {L : Loc} (hb : h.blks.get id = none) (hρ : ρ id = none) (hL : L.b < w.heap.size) : HRel P base (upd ρ id L) h w := by
  have hm := zAa (l := L) hρ
  have hback : ∀ A l bb, h.blks.get A = some bb → upd ρ id L A = some l → ρ A = some l := fun A l bb hq hA => by
    rwa [ze (fun e => by rw [e, hb] at hq; cases hq)] at hA
  have hlt : ∀ A bb, h.blks.get A = some bb → A ≠ id := fun A bb hq e => by rw [e, hb] at hq; cases hq
  refine ⟨hr.le, fun A l hA => ?_, fun A c hc hs => ?_, fun A c l hc hA => ?_, fun A B c d l m hAB hc hd hA hB => hr.alias A B c d l m hAB hc hd (hback A l _ (okCells_iff.1 hc).1 hA) (hback B m _ (okCells_iff.1 hd).1 hB),
    fun A l es hes hA => ?_, fun A B es fs l m hAB h1 h2 hA hB => hr.malias A B es fs l m hAB h1 h2 (hback A l _ h1 hA) (hback B m _ h2 hB), upd_fin hr.fin, fun A c f l hc hf h0 hro hA => hr.mark A c f l hc hf h0 hro (hback A l _ (okCells_iff.1 hc).1 hA),
    hr.loops.step hm (fun A r l h1 h2 => ⟨h1, hback A l _ h1 h2⟩) (fun _ _ h => h) (fun A l h1 h2 => by obtain ⟨c, k1, k2⟩ := h1; exact .inr ⟨⟨c, k1, k2⟩, hback A l _ k1 h2⟩) (fun A l es es' cl h1 h2 h3 => .inr ⟨es, h1, hback A l _ h1 h2, h3⟩)⟩
  · by_cases e : A = id
    · subst e; rw [zt] at hA; cases hA; exact hL
    · rw [ze e] at hA; exact hr.bnd A l hA
  · rw [ze (hlt A _ hc)] at hs
    obtain ⟨l, hl⟩ := Option.isSome_iff_exists.1 (hr.found A c hc hs)
    rw [hm _ _ hl]; rfl
  · obtain ⟨cs, T, fz, g1, g2, g3, g4, g5⟩ := hr.cells A c l hc (hback A l _ (okCells_iff.1 hc).1 hA)
    exact ⟨cs, T, fz, g1, g2, g3, g4.mono hm, g5⟩
  · obtain ⟨es', cl, g1, g2, g3⟩ := hr.maps A l es hes (hback A l _ hes hA)
    exact ⟨es', cl, g1, g2, g3.mono fun a b hab => ⟨hab.1.mono hm, hab.2.mono hm⟩⟩
theorem push_new (hr : HRel P base ρ h w) (wf : HWF h) (hρ : ρ h.next = none) (hB : Below w.heap.size w w') {b : NBlk} {g : Nat} {obj : Obj} (hg : w.heap.size ≤ g) (ho : w'.heap[g]? = some obj) (hobj : ObjOK ρ b obj) :
    HRel P base (upd ρ h.next ⟨g, 0, zq obj⟩) (h.push b) w' ∧ HWF (h.push b) ∧ Ext base ρ h w (upd ρ h.next ⟨g, 0, zq obj⟩) (h.push b) w' := by
  have hm := zAa (l := (⟨g, 0, zq obj⟩ : Loc)) hρ
  have hfr := (wf.fresh h.next (Nat.le_refl _)).1
  have hlt : g < w'.heap.size := (Array.getElem?_eq_some_iff.1 ho).1
  have h1 : HRel P base (upd ρ h.next ⟨g, 0, zq obj⟩) h w' := (hr.below hB).name hfr hρ hlt
  have h2 : Pend base (upd ρ h.next ⟨g, 0, zq obj⟩) w' h.next b := ⟨⟨g, 0, zq obj⟩, obj, zt, rfl, ho, hobj.mono hm, rfl, by simp only; have := hr.le; omega, fun A L' hA hne => by
    rw [ze hne] at hA
    have := hr.bnd A L' hA
    simp only; omega⟩
  have h3 := h1.adopt h2 hfr (fun A c hc e => by have := (wf.fam A c hc).1; omega)
  refine ⟨h3.congr (fun A => by rw [zAY]) (fun A => by rw [zAY]), wf.push b, hm, fun A hA => ?_, by rw [zAN]; omega, fun A hA hs => ?_, fun A hA _ => ⟨by rw [zAX, if_neg (by omega)], zA0 h b A (by omega)⟩, hB.mono hr.le, fun r hr' _ => hB.block r hr', fun A l hA hn => ?_⟩
  · by_cases e : A = h.next
    · subst e; rw [zAN]; omega
    · exact absurd (ze e) hA
  · rw [zAX, if_neg (by omega)] at hs; exact hs
  · by_cases e : A = h.next
    · subst e; rw [zt] at hA; cases hA; exact .inl hg
    · rw [ze e, hn] at hA; cases hA
def cloneG : Prim
  | [.map none], h => some (.map none, h)
  | [.map (some r)], h => match h.blks.get r with
    | some (.map es) => some (.map (some h.next), (h.push .map).setBlk h.next (.map es))
    | _ => none
  | _, _ => none
theorem cloneG_some {args : List Value} {h h' : Heap} {v : Value} (hr : cloneG args h = some (v, h')) : (args = [.map none] ∧ v = .map none ∧ h' = h) ∨
    ∃ r es, args = [.map (some r)] ∧ h.blks.get r = some (.map es) ∧ v = .map (some h.next) ∧ h' = (h.push .map).setBlk h.next (.map es) := by
  unfold cloneG at hr
  split at hr
  · cases hr; exact .inl ⟨rfl, rfl, rfl⟩
  · split at hr
    · rename_i hes
      simp only [Option.some.injEq, Prod.mk.injEq] at hr
      exact .inr ⟨_, _, rfl, hes, hr.1.symm, hr.2.symm⟩
    · cases hr
  · cases hr
theorem Tab.clone {l : List (Nat × Prim)} (ok : XOK P (Tab P l)) {f : Nat} (hcl : zAU P f)
    (h1 : ∀ (b : Nat) (es : Array MapEntry) (clock : Nat) (w : World), w.heap[b]? = some (.map es clock) → Calls P f #[.map (some b)] w fun e w' => e = .returned (.map (some w.heap.size)) ∧ w' = w.alloc (.map es clock))
    (h2 : ∀ w : World, Calls P f #[.map none] w fun e w' => e = .returned (.map none) ∧ w' = w) : XOK P (Tab P ((f, cloneG) :: l)) := by
  refine Tab.cons ok fun args h v h' hr => ?_
  rcases cloneG_some hr with ⟨rfl, rfl, rfl⟩ | ⟨r, es, rfl, hes, rfl, rfl⟩
  · refine ⟨hcl, Nat.le_refl _, fun base ρ w args' hrel wf _ hargs => ?_⟩
    cases hargs with
    | cons a b =>
      cases a; cases b
      refine (h2 w).mono fun e w' hq => ?_
      obtain ⟨rfl, rfl⟩ := hq
      exact ⟨_, ρ, rfl, hrel, wf, Ext.refl _ _ _ _, .nilmap⟩
  · refine ⟨hcl, by show h.next ≤ h.next + 1; omega, fun base ρ w args' hrel wf hpre hargs => ?_⟩
    cases hargs with
    | cons a b =>
      cases a; cases b
      rename_i L hL
      obtain ⟨es', cl, g1, g2, g3⟩ := hrel.maps r L es hes hL
      refine (h1 L.b es' cl w g1).mono fun e w' hq => ?_
      obtain ⟨rfl, rfl⟩ := hq
      have hρ : ρ h.next = none := hpre h.next (Nat.le_refl _) (by show h.next < h.next + 1; omega)
      have hB : Below w.heap.size w (w.alloc (.map #[] 0)) := (Below.refl _ w).alloc (Nat.le_refl _) _
      obtain ⟨s1, s2, s3⟩ := push_new (b := .map) (g := w.heap.size) (obj := .map #[] 0) hrel wf hρ hB (Nat.le_refl _) (World.alloc_heap_new w _) rfl
      have hL1 : upd ρ h.next ⟨w.heap.size, 0, zq (.map #[] 0)⟩ h.next = some ⟨w.heap.size, 0, zq (.map #[] 0)⟩ := zt
      have hm := zAa (l := (⟨w.heap.size, 0, zq (.map #[] 0)⟩ : Loc)) hρ
      obtain ⟨z1, z2, z3⟩ := map_step (r := h.next) (es := []) (fs := es) (es' := #[]) (fs' := es') (cl := 0) (cl' := cl) s1 s2 (by rw [zAX, if_pos rfl]; rfl) hL1 (World.alloc_heap_new w _) (by simp only; exact hrel.le) (g3.mono fun a b hab => ⟨hab.1.mono hm, hab.2.mono hm⟩) (hrel.loops.stamps r L es es' cl hes hL g1)
      have hw : ({ (w.alloc (.map #[] 0)) with heap := (w.alloc (.map #[] 0)).heap.setIfInBounds w.heap.size (.map es' cl) } : World) = w.alloc (.map es' cl) := by
        have : (w.heap.push (Obj.map #[] 0)).setIfInBounds w.heap.size (.map es' cl) = w.heap.push (.map es' cl) := by
          apply Array.ext_getElem?
          intro i
          by_cases hi : i = w.heap.size
          · subst hi; simp
          · rw [Array.getElem?_setIfInBounds_ne (Ne.symm hi), Array.getElem?_push, Array.getElem?_push, if_neg hi, if_neg hi]
        show ({ w with heap := (w.heap.push (Obj.map #[] 0)).setIfInBounds w.heap.size (.map es' cl) } : World) = { w with heap := w.heap.push (.map es' cl) }
        rw [this]
      simp only at z1 z3
      rw [hw] at z1 z3
      exact ⟨_, _, rfl, z1, z2, Ext.trans s2 (fun A k1 k2 => hpre A k1 k2) s3 z3, .map hL1⟩
def strsOf : List (Value × Value) → Option (List (List UInt8))
  | [] => some []
  | (.string s, _) :: r => match strsOf r with | some l => some (s.data.toList :: l) | none => none
  | _ :: _ => none
def leS : List UInt8 → List UInt8 → Bool
  | [], _ => true
  | _ :: _, [] => false
  | a :: as', b :: bs => if a.toNat < b.toNat then true else if b.toNat < a.toNat then false else leS as' bs
def insS (x : List UInt8) : List (List UInt8) → List (List UInt8)
  | [] => [x]
  | y :: l => if leS x y then x :: y :: l else y :: insS x l
def isort : List (List UInt8) → List (List UInt8)
  | [] => []
  | x :: l => insS x (isort l)
theorem leS_eq : ∀ a b : List UInt8, leS a b = decide (a ≤ b)
  | [], b => by simp [leS]
  | a :: as', [] => by simp [leS]
  | a :: as', b :: bs => by
    simp only [leS]
    have ih := leS_eq as' bs
    by_cases h1 : a.toNat < b.toNat
    · rw [if_pos h1]
      have : a < b := UInt8.lt_iff_toNat_lt.2 h1
      simp [List.cons_le_cons_iff, this]
    · rw [if_neg h1]
      by_cases h2 : b.toNat < a.toNat
      · rw [if_pos h2]
        have h3 : ¬ a < b := fun h => h1 (UInt8.lt_iff_toNat_lt.1 h)
        have h4 : a ≠ b := fun e => by subst e; omega
        simp [List.cons_le_cons_iff, h3, h4]
      · rw [if_neg h2]
        have h4 : a = b := UInt8.toNat_inj.1 (by omega)
        subst h4
        rw [ih]
        simp [List.cons_le_cons_iff]
theorem insS_perm (x : List UInt8) : ∀ l, (insS x l).Perm (x :: l)
  | [] => List.Perm.refl _
  | y :: l => by
    simp only [insS]
    split
    · exact List.Perm.refl _
    · exact ((insS_perm x l).cons y).trans (List.Perm.swap x y l)
theorem isort_perm : ∀ l, (isort l).Perm l
  | [] => List.Perm.refl _
  | x :: l => (insS_perm x _).trans ((isort_perm l).cons x)
theorem insS_sorted (x : List UInt8) : ∀ l : List (List UInt8), l.Pairwise (· ≤ ·) → (insS x l).Pairwise (· ≤ ·)
  | [], _ => by simp [insS]
  | y :: l, hl => by
    simp only [insS]
    rw [List.pairwise_cons] at hl
    split
    · rename_i hxy
      rw [leS_eq, decide_eq_true_eq] at hxy
      refine List.pairwise_cons.2 ⟨fun z hz => ?_, List.pairwise_cons.2 hl⟩
      rcases List.mem_cons.1 hz with rfl | hz
      · exact hxy
      · exact List.le_trans hxy (hl.1 z hz)
    · rename_i hxy
      rw [leS_eq, decide_eq_true_eq] at hxy
      have hyx : y ≤ x := (List.le_total x y).resolve_left hxy
      refine List.pairwise_cons.2 ⟨fun z hz => ?_, insS_sorted x l hl.2⟩
      rcases List.mem_cons.1 ((insS_perm x l).mem_iff.1 hz) with rfl | hz
      · exact hyx
      · exact hl.1 z hz
theorem isort_sorted : ∀ l, (isort l).Pairwise (· ≤ ·)
  | [] => List.Pairwise.nil
  | x :: l => insS_sorted x _ (isort_sorted l)
theorem isort_eq {l m : List (List UInt8)} (hp : m.Perm l) : m.mergeSort (fun x y => decide (x ≤ y)) = isort l := by
  have htr : ∀ a b c : List UInt8, decide (a ≤ b) = true → decide (b ≤ c) = true → decide (a ≤ c) = true := fun a b c h1 h2 => by simp only [decide_eq_true_eq] at *; exact List.le_trans h1 h2
  have hto : ∀ a b : List UInt8, (decide (a ≤ b) || decide (b ≤ a)) = true := fun a b => by simp only [Bool.or_eq_true, decide_eq_true_eq]; exact List.le_total a b
  refine List.Perm.eq_of_pairwise (le := fun a b => decide (a ≤ b) = true) (fun a b _ _ h1 h2 => ?_) (List.pairwise_mergeSort htr hto m) ((isort_sorted l).imp fun h => by simpa using h) (((List.mergeSort_perm m _).trans hp).trans (isort_perm l).symm)
  simp only [decide_eq_true_eq] at h1 h2
  exact List.le_antisymm h1 h2
def nodupB : List (List UInt8) → Bool
  | [] => true
  | x :: l => !(l.any fun y => x == y) && nodupB l
theorem nodupB_nodup : ∀ {l : List (List UInt8)}, nodupB l = true → l.Nodup
  | [], _ => .nil
  | x :: l, h => by
    simp only [nodupB, Bool.and_eq_true, Bool.not_eq_true', List.any_eq_false] at h
    exact List.nodup_cons.2 ⟨fun hin => h.1 x hin (by simp), nodupB_nodup h.2⟩
def sortedOut (ks : List (List UInt8)) (h : Heap) : Option (Value × Heap) :=
  match isort ks with
  | [] => some (.slice none 0 0, h)
  | s => some (.slice (some ⟨h.next, 0, some 1⟩) s.length s.length, h.push (.cells (s.map fun l => .string (strOf l))))
def keysAt (a : Addr) (h : Heap) : Option (List (List UInt8)) :=
  match h.okCells a.block with
  | some c => cond (c.fam.beq a.block && c.delta.beq 0 && !c.ro && a.off.beq 0)
    (match c.cells with
     | [.map none] => some []
     | [.map (some r)] => match h.blks.get r with
       | some (.map es) => match strsOf es with
         | some ks => cond (nodupB ks && ks.length.ble 1000000000 && ks.all (fun k => k.length.ble zX)) (some ks) none
         | none => none
       | _ => none
     | _ => none) none
  | none => none
def sortedG (ks : List Nat) : Prim
  | [.func (.func g) first caps], h => cond (ks.any (fun k => g.beq k) && first.isEmpty) (match caps.toList with
    | [.pointer (some a)] => match keysAt a h with
      | some l => sortedOut l h
      | none => none
    | _ => none) none
  | _, _ => none
theorem strsOf_rel {es : List (Value × Value)} {es' : List MapEntry} (hr : All2 (ERel ρ) es es') : ∀ {ks}, strsOf es = some ks → es'.map (·.key) = ks.map encStr := by
  induction hr with
  | nil => intro ks hk; cases hk; rfl
  | @cons a b es es' hab _ ih =>
    intro ks hk
    obtain ⟨k, v⟩ := a
    unfold strsOf at hk
    split at hk
    · rename_i heq; cases heq
    · rename_i s v' r heq
      cases heq
      split at hk
      · rename_i l hl
        cases hk
        obtain ⟨h1, _⟩ := hab
        have h1' : VRel ρ (.string s) b.key := h1
        cases hb : b.key <;> rw [hb] at h1' <;> cases h1'
        rw [List.map_cons, List.map_cons, ih hl, hb]
      · cases hk
    · cases hk
end
end Go.X
end
section
namespace Go.X
open Go.RowKit Go.Maps
open Go.Proofs (encStr)
open Go.WideElems (Fit rd rg rg_of)
set_option linter.unusedVariables false
section
variable {P : Program} {ρ : Ren} {base : Nat} {h : Heap} {w w' : World}
def SortOut (K : TypeId) (S : List (List UInt8) → Prop) (w : World) (e : Ending) (w' : World) : Prop :=
  ∃ (v : Value) (ss : List (List UInt8)), e = .returned v ∧ S ss ∧ w'.ownsRow w.heap.size K 1 v ss.length ((ss.mergeSort (fun x y => decide (x ≤ y))).map encStr) ∧ (v = .slice none 0 0 ↔ ss = []) ∧ Below w.heap.size w w'
theorem keysAt_some {a : Addr} {ks : List (List UInt8)} (hk : keysAt a h = some ks) : ∃ c, h.okCells a.block = some c ∧ c.fam = a.block ∧ c.delta = 0 ∧ c.ro = false ∧ a.off = 0 ∧
    ((c.cells = [.map none] ∧ ks = []) ∨ ∃ r es, c.cells = [.map (some r)] ∧ h.blks.get r = some (.map es) ∧ strsOf es = some ks ∧ nodupB ks = true ∧ ks.length ≤ 1000000000 ∧ ∀ k ∈ ks, k.length ≤ zX) := by
  unfold keysAt at hk
  split at hk
  · rename_i c hc
    cases hb : (c.fam.beq a.block && c.delta.beq 0 && !c.ro && a.off.beq 0) with
    | false => rw [hb] at hk; cases hk
    | true =>
      rw [hb] at hk
      simp only [Bool.and_eq_true, Bool.not_eq_true'] at hb
      obtain ⟨⟨⟨b1, b2⟩, b3⟩, b4⟩ := hb
      refine ⟨c, hc, Nat.eq_of_beq_eq_true b1, Nat.eq_of_beq_eq_true b2, b3, Nat.eq_of_beq_eq_true b4, ?_⟩
      simp only [cond_true] at hk
      split at hk
      · rename_i hcc; cases hk; exact .inl ⟨hcc, rfl⟩
      · rename_i r hcc
        split at hk
        · rename_i es hes
          split at hk
          · rename_i l hl
            cases hq : (nodupB l && l.length.ble 1000000000 && l.all (fun k => k.length.ble zX)) with
            | false => rw [hq] at hk; cases hk
            | true =>
              rw [hq] at hk
              cases hk
              simp only [Bool.and_eq_true, List.all_eq_true] at hq
              exact .inr ⟨r, es, hcc, hes, hl, hq.1.1, Nat.le_of_ble_eq_true hq.1.2, fun k hk => Nat.le_of_ble_eq_true (hq.2 k hk)⟩
          · cases hk
        · cases hk
      · cases hk
  · cases hk
theorem sortedG_some {gs : List Nat} {args : List Value} {h' : Heap} {v : Value} (hr : sortedG gs args h = some (v, h')) :
    ∃ g first caps a ks, args = [.func (.func g) first caps] ∧ g ∈ gs ∧ first.size = 0 ∧ caps.toList = [.pointer (some a)] ∧ keysAt a h = some ks ∧ sortedOut ks h = some (v, h') := by
  unfold sortedG at hr
  split at hr
  · rename_i g first caps
    cases hb : (gs.any (fun k => g.beq k) && first.isEmpty) with
    | false => rw [hb] at hr; cases hr
    | true =>
      rw [hb] at hr
      simp only [Bool.and_eq_true, List.any_eq_true] at hb
      obtain ⟨⟨k, hk, hgk⟩, hf⟩ := hb
      obtain rfl := Nat.eq_of_beq_eq_true hgk
      simp only [cond_true] at hr
      split at hr
      · rename_i a hcap
        split at hr
        · rename_i l hl
          exact ⟨_, _, _, _, _, rfl, hk, by simpa using hf, hcap, hl, hr⟩
        · cases hr
      · cases hr
  · cases hr
def bytesV : Value → List UInt8
  | .string s => s.data.toList
  | _ => []
theorem fit_of {K : TypeId} (hK : P.underlying K = some .string) {es' : Array MapEntry} {cl : Nat} {ks : List (List UInt8)} (hk : es'.toList.map (·.key) = ks.map encStr) (hst : Stamps es' cl) (hnd : nodupB ks = true) (hl : ks.length ≤ 1000000000) (hb : ∀ k ∈ ks, k.length ≤ zX) :
    Fit (H := Unit) P K (fun _ => some (.nil, [])) es' cl ∧ es'.toList.map (fun x => Go.strOf (rg (H := Unit) P K (fun _ => some (.nil, [])) x).1) = ks := by
  have hlen : es'.size = ks.length := by
    have := congrArg List.length hk
    simpa using this
  have hrd : ∀ x ∈ es'.toList, ∃ k ∈ ks, x.key = encStr k ∧ rd (H := Unit) P K (fun _ => some (.nil, [])) x = some (.string k, .nil) := fun x hx => by
    have hx' : x.key ∈ ks.map encStr := by rw [← hk]; exact List.mem_map_of_mem hx
    obtain ⟨k, hkk, hxk⟩ := List.mem_map.1 hx'
    refine ⟨k, hkk, hxk.symm, ?_⟩
    have hkl : k.length ≤ maxLen := by have := hb k hkk; unfold zX at this; unfold maxLen; omega
    have hkey : keyOf P K x.key = some (.string k) := by
      rw [← hxk]
      simp only [keyOf, hK, mapKey, encStr]
      rw [if_pos (by simpa [ByteArray.size] using hkl)]
    simp [rd, hkey]
  refine ⟨⟨by rw [hlen]; unfold maxLen; omega, ⟨hst.1, hst.2, ?_⟩, fun x hx => by obtain ⟨k, _, _, h⟩ := hrd x hx; exact ⟨_, h⟩⟩, ?_⟩
  · rw [hk]
    exact List.pairwise_map.2 ((nodupB_nodup hnd).imp fun hne e => hne (encStr_inj e))
  · have e1 : es'.toList.map (fun x => Go.strOf (rg (H := Unit) P K (fun _ => some (.nil, [])) x).1) = (es'.toList.map (·.key)).map bytesV := by
      rw [List.map_map]
      refine List.map_congr_left fun x hx => ?_
      obtain ⟨k, _, h1, h2⟩ := hrd x hx
      simp only [Function.comp, rg_of h2, h1, encStr, bytesV, Go.strOf]
    rw [e1, hk, List.map_map]
    conv => rhs; rw [← List.map_id ks]
    exact List.map_congr_left fun k _ => rfl
theorem Tab.sorted {l : List (Nat × Prim)} (ok : XOK P (Tab P l)) {f : Nat} {gs : List Nat} {K : TypeId} (hK : P.underlying K = some .string) (hcl : zAU P f)
    (h1 : ∀ g ∈ gs, ∀ (b nn Bm : Nat) (D0 : DataW Unit) (R : Value → Option (DataW Unit × List MemPlace)) (w : World), w.ownsMap P K R b nn D0 → Maps.size D0 ≤ maxLen → Maps.size D0 * 16 ≤ 140737488355328 → Bm < w.heap.size → w.cell? ⟨Bm, 0, none⟩ = some (.map (some b)) →
      Calls P f #[.func (.func g) #[] #[.pointer (some ⟨Bm, 0, none⟩)]] w (SortOut K (fun ss => ss.Perm (strKeys D0)) w))
    (h2 : ∀ g ∈ gs, ∀ (Bm : Nat) (w : World), Bm < w.heap.size → w.cell? ⟨Bm, 0, none⟩ = some (.map none) → Calls P f #[.func (.func g) #[] #[.pointer (some ⟨Bm, 0, none⟩)]] w (SortOut K (fun ss => ss = []) w)) : XOK P (Tab P ((f, sortedG gs) :: l)) := by
  refine Tab.cons ok fun args h v h' hr => ?_
  obtain ⟨g, first, caps, a, ks, rfl, hg, hf, hcap, hks, hout⟩ := sortedG_some hr
  have hnext : h.next ≤ h'.next := by
    unfold sortedOut at hout
    split at hout
    · cases hout; exact Nat.le_refl _
    · cases hout; rw [zAN]; exact Nat.le_succ _
  refine ⟨hcl, hnext, fun base ρ w args' hrel wf hpre hargs => ?_⟩
  cases hargs with
  | cons ha hnil =>
    cases hnil
    cases ha
    rename_i first' caps' a1 b1 a2 b2
    have hfe : first' = #[] := Array.eq_empty_of_size_eq_zero (by rw [← a1]; exact hf)
    have hc2 := zAe a2 b2
    rw [hcap] at hc2
    obtain ⟨c, hok, hfam, hdel, hro, hoff, hcells⟩ := keysAt_some hks
    obtain ⟨L, hL, hcaps⟩ : ∃ L, ρ a.block = some L ∧ caps' = #[.pointer (some ⟨L.b, L.o + a.off, none⟩)] := by
      cases hq : caps'.toList with
      | nil => rw [hq] at hc2; cases hc2
      | cons x xs =>
        rw [hq] at hc2
        cases hc2 with
        | cons k1 k2 =>
          cases k2
          cases k1
          rename_i L hL
          exact ⟨L, hL, by apply Array.ext'; rw [hq]⟩
    have hLo : L.o = 0 := hrel.loops.root a.block L ⟨c, (okCells_iff.1 hok).1, hfam, hdel, hro⟩ hL
    rw [hLo, hoff] at hcaps
    have hlt := hrel.bnd _ _ hL
    subst hfe hcaps
    have fin : ∀ (S : List (List UInt8) → Prop), (∀ ss, S ss → ss.Perm ks) → ∀ e w', SortOut K S w e w' → ∃ v' ρ', e = .returned v' ∧ HRel P base ρ' h' w' ∧ HWF h' ∧ Ext base ρ h w ρ' h' w' ∧ VRel ρ' v v' := by
      rintro S hS e w' ⟨v0, ss, rfl, hss, hrow, hnil, hB⟩
      have hp := hS ss hss
      have hms := isort_eq hp
      rw [hms] at hrow
      have hlen : (isort ks).length = ss.length := (isort_perm ks).length_eq.trans hp.length_eq.symm
      unfold sortedOut at hout
      split at hout
      · rename_i he
        cases hout
        have hs0 : ss = [] := List.eq_nil_of_length_eq_zero (by rw [← hlen, he]; rfl)
        have hv := hnil.2 hs0
        subst hv
        exact ⟨_, ρ, rfl, hrel.below hB, wf, ⟨fun _ _ h => h, fun _ h => absurd rfl h, Nat.le_refl _, fun _ _ h => h, fun _ _ _ => ⟨rfl, rfl⟩, hB.mono hrel.le, fun r h1 _ => hB.block r h1, fun A l h1 h2 => by rw [h1] at h2; cases h2⟩, .nilslice⟩
      · rename_i s hne
        simp only [Option.some.injEq, Prod.mk.injEq] at hout
        obtain ⟨rfl, rfl⟩ := hout
        have hss0 : ss ≠ [] := fun e => hne (List.eq_nil_of_length_eq_zero (by rw [hlen, e]; rfl))
        rcases hrow.2 with ⟨hv, hz⟩ | ⟨gb, cap, cur, rfl, hbase, hgb, r1, r2, r3, r4⟩
        · exact absurd (List.eq_nil_of_length_eq_zero hz) hss0
        · have hρ : ρ h.next = none := hpre h.next (Nat.le_refl _) (by rw [zAN]; exact Nat.lt_succ_self _)
          have hcl' : ((isort ks).map fun l => Value.string (strOf l)).length = ss.length := by simp [hlen]
          obtain ⟨s1, s2, s3⟩ := push_new (b := .cells ((isort ks).map fun l => .string (strOf l))) hrel wf hρ hB hbase hgb ⟨cur, K, (0, 0), rfl, by rw [hcl', r3]; omega, by
            rw [hcl']
            rw [Nat.mul_one] at r4
            rw [r4]
            refine All2.refl_of _ fun x hx => ?_
            obtain ⟨y, _, rfl⟩ := List.mem_map.1 hx
            exact .string _, fun i _ hi => by omega⟩
          refine ⟨_, _, rfl, s1, s2, s3, ?_⟩
          rw [hlen]
          refine VRel.slice (off := 0) zt (Nat.le_refl _) r1 (fun _ => rfl) (fun hq => by cases hq) (fun q hq => ?_)
          cases hq
          show 0 + 0 + cap * 1 ≤ cur.size
          rw [r3]; omega
    obtain ⟨v1, hcell, hv1⟩ := hrel.cell (i := 0) (v := c.cells.getD 0 .nilFunc) hok hL (by rcases hcells with ⟨e, _⟩ | ⟨r, es, e, _⟩ <;> rw [e] <;> rfl)
    rw [hLo] at hcell
    rcases hcells with ⟨e, rfl⟩ | ⟨r, es, e, hes, hst, hnd, hl, hbd⟩
    · rw [e] at hv1
      cases hv1
      exact (h2 g hg L.b w hlt hcell).mono (fin _ fun ss hs => by rw [hs])
    · rw [e] at hv1
      cases hv1
      rename_i M hM
      obtain ⟨es', cl, m1, m2, m3⟩ := hrel.maps r M es hes hM
      obtain ⟨F, hkeys⟩ := fit_of hK (strsOf_rel m3 hst) (hrel.loops.stamps r M es es' cl hes hM m1) hnd hl hbd
      have hperm := Go.WideShapes.sorted_perm (es'.toList.map (rg (H := Unit) P K (fun _ => some (.nil, []))))
      have hsz : Maps.size (.map ((es'.toList.map (rg (H := Unit) P K (fun _ => some (.nil, [])))).foldr DataW.insert [])) = ks.length := by
        rw [Maps.size_eq, hperm.length_eq, List.length_map, ← hkeys, List.length_map]
      refine (h1 g hg M.b es'.size L.b _ _ w ⟨es', cl, m1, F, Nat.le_refl _, rfl⟩ (by rw [hsz]; unfold maxLen; omega) (by rw [hsz]; omega) hlt hcell).mono (fin _ fun ss hs => ?_)
      refine hs.trans ?_
      have := hperm.map (fun p => Go.strOf p.1)
      rw [List.map_map] at this
      rw [← hkeys]
      exact this
end
end Go.X
end
section
namespace Go.Proofs
open Go.Shelf
def Tryz.lays105_ren : Go.Shelf.Ren := ⟨fun | 105 => 264 | 212 => 269 | 99 => 270 | 165 => 271 | 166 => 272 | 170 => 273 | 169 => 274 | 263 => 275 | 264 => 276 | 206 => 277 | 240 => 278 | 241 => 279 | 276 => 280 | 277 => 281 | n => n, fun | 9 => 9 | 3 => 3 | 4 => 4 | 20 => 20 | 0 => 0 | 46 => 245 | 109 => 350 | 5 => 5 | 72 => 354 | 76 => 357 | 51 => 285 | 146 => 359 | 53 => 32 | 148 => 361 | 70 => 352 | 37 => 203 | 75 => 356 | 127 => 363 | 164 => 364 | 80 => 41 | n => n, fun | n => n⟩
theorem Tryz.lays105 : Go.Proofs.Lays.n105 Tryz.prog Tryz.lays105_ren := {
  mixed := by kernel_rfl
  f99 := Tryz.func270.trans (congrArg some (by kernel_rfl))
  f105 := Tryz.func264.trans (congrArg some (by kernel_rfl))
  f165 := Tryz.func271.trans (congrArg some (by kernel_rfl))
  f166 := Tryz.func272.trans (congrArg some (by kernel_rfl))
  f169 := Tryz.func274.trans (congrArg some (by kernel_rfl))
  f170 := Tryz.func273.trans (congrArg some (by kernel_rfl))
  f206 := Tryz.func277.trans (congrArg some (by kernel_rfl))
  f212 := Tryz.func269.trans (congrArg some (by kernel_rfl))
  f240 := Tryz.func278.trans (congrArg some (by kernel_rfl))
  f241 := Tryz.func279.trans (congrArg some (by kernel_rfl))
  f263 := Tryz.func275.trans (congrArg some (by kernel_rfl))
  f264 := Tryz.func276.trans (congrArg some (by kernel_rfl))
  f276 := Tryz.func280.trans (congrArg some (by kernel_rfl))
  f277 := Tryz.func281.trans (congrArg some (by kernel_rfl))
  t0 := Tryz.underlying0
  a0 := Tryz.isAgg0
  z0 := Tryz.sizeOf0
  v0 := Tryz.zeroValue0
  t3 := Tryz.underlying3
  a3 := Tryz.isAgg3
  z3 := Tryz.sizeOf3
  v3 := Tryz.zeroValue3
  t4 := Tryz.underlying4
  a4 := Tryz.isAgg4
  z4 := Tryz.sizeOf4
  v4 := Tryz.zeroValue4
  t5 := Tryz.underlying5
  a5 := Tryz.isAgg5
  z5 := Tryz.sizeOf5
  v5 := Tryz.zeroValue5
  t9 := Tryz.underlying9
  a9 := Tryz.isAgg9
  z9 := Tryz.sizeOf9
  v9 := Tryz.zeroValue9
  t20 := Tryz.underlying20
  a20 := Tryz.isAgg20
  z20 := Tryz.sizeOf20
  v20 := Tryz.zeroValue20
  t37 := Tryz.underlying203
  a37 := Tryz.isAgg203
  z37 := Tryz.sizeOf203
  v37 := Tryz.zeroValue203
  t46 := Tryz.underlying245
  a46 := Tryz.isAgg245
  z46 := Tryz.sizeOf245
  v46 := Tryz.zeroValue245
  t51 := Tryz.underlying285
  a51 := Tryz.isAgg285
  z51 := Tryz.sizeOf285
  v51 := Tryz.zeroValue285
  t53 := Tryz.underlying32
  a53 := Tryz.isAgg32
  z53 := Tryz.sizeOf32
  v53 := Tryz.zeroValue32
  t70 := Tryz.underlying352
  a70 := Tryz.isAgg352
  z70 := Tryz.sizeOf352
  v70 := Tryz.zeroValue352
  t72 := Tryz.underlying354
  a72 := Tryz.isAgg354
  z72 := Tryz.sizeOf354
  v72 := Tryz.zeroValue354
  t75 := Tryz.underlying356
  a75 := Tryz.isAgg356
  z75 := Tryz.sizeOf356
  v75 := Tryz.zeroValue356
  t76 := Tryz.underlying357
  a76 := Tryz.isAgg357
  z76 := Tryz.sizeOf357
  v76 := Tryz.zeroValue357
  t109 := Tryz.underlying350
  a109 := Tryz.isAgg350
  z109 := Tryz.sizeOf350
  v109 := Tryz.zeroValue350
  t127 := Tryz.underlying363
  a127 := Tryz.isAgg363
  z127 := Tryz.sizeOf363
  v127 := Tryz.zeroValue363
  t146 := Tryz.underlying359
  a146 := Tryz.isAgg359
  z146 := Tryz.sizeOf359
  v146 := Tryz.zeroValue359
  t148 := Tryz.underlying361
  a148 := Tryz.isAgg361
  z148 := Tryz.sizeOf361
  v148 := Tryz.zeroValue361
  t164 := Tryz.underlying364
  a164 := Tryz.isAgg364
  z164 := Tryz.sizeOf364
  v164 := Tryz.zeroValue364 }
def Tryz.keys116_ren : Go.Shelf.Ren := ⟨fun | 7 => 116 | 10 => 161 | n => n, fun | 23 => 191 | 26 => 9 | 3 => 4 | 28 => 196 | 0 => 0 | 27 => 195 | 33 => 199 | 4 => 4 | n => n, fun | n => n⟩
theorem Tryz.keys116 : Go.Proofs.SlLaysZ.n7 Tryz.prog Tryz.keys116_ren := {
  mixed := by kernel_rfl
  f7 := ⟨Tryz.f116.name, by decide, Tryz.func116.trans (congrArg some (by kernel_rfl))⟩
  f10 := ⟨Tryz.f161.name, by decide, Tryz.func161.trans (congrArg some (by kernel_rfl))⟩
  t0 := Tryz.underlying0
  a0 := Tryz.isAgg0
  z0 := Tryz.sizeOf0
  v0 := Tryz.zeroValue0
  t4 := Tryz.underlying4
  a4 := Tryz.isAgg4
  z4 := Tryz.sizeOf4
  v4 := Tryz.zeroValue4
  t23 := Tryz.underlying191
  a23 := Tryz.isAgg191
  z23 := Tryz.sizeOf191
  v23 := Tryz.zeroValue191
  t26 := Tryz.underlying9
  a26 := Tryz.isAgg9
  z26 := Tryz.sizeOf9
  v26 := Tryz.zeroValue9
  t27 := Tryz.underlying195
  a27 := Tryz.isAgg195
  z27 := Tryz.sizeOf195
  v27 := Tryz.zeroValue195
  t28 := Tryz.underlying196
  a28 := Tryz.isAgg196
  z28 := Tryz.sizeOf196
  v28 := Tryz.zeroValue196
  t33 := Tryz.underlying199
  a33 := Tryz.isAgg199
  z33 := Tryz.sizeOf199
  v33 := Tryz.zeroValue199 }
def Tryz.keys171_ren : Go.Shelf.Ren := ⟨fun | 7 => 171 | 10 => 206 | n => n, fun | 23 => 122 | 26 => 9 | 3 => 9 | 28 => 196 | 0 => 0 | 27 => 195 | 33 => 199 | 4 => 4 | n => n, fun | n => n⟩
theorem Tryz.keys171 : Go.Proofs.SlLaysZ.n7 Tryz.prog Tryz.keys171_ren := {
  mixed := by kernel_rfl
  f7 := ⟨Tryz.f171.name, by decide, Tryz.func171.trans (congrArg some (by kernel_rfl))⟩
  f10 := ⟨Tryz.f206.name, by decide, Tryz.func206.trans (congrArg some (by kernel_rfl))⟩
  t0 := Tryz.underlying0
  a0 := Tryz.isAgg0
  z0 := Tryz.sizeOf0
  v0 := Tryz.zeroValue0
  t4 := Tryz.underlying4
  a4 := Tryz.isAgg4
  z4 := Tryz.sizeOf4
  v4 := Tryz.zeroValue4
  t23 := Tryz.underlying122
  a23 := Tryz.isAgg122
  z23 := Tryz.sizeOf122
  v23 := Tryz.zeroValue122
  t26 := Tryz.underlying9
  a26 := Tryz.isAgg9
  z26 := Tryz.sizeOf9
  v26 := Tryz.zeroValue9
  t27 := Tryz.underlying195
  a27 := Tryz.isAgg195
  z27 := Tryz.sizeOf195
  v27 := Tryz.zeroValue195
  t28 := Tryz.underlying196
  a28 := Tryz.isAgg196
  z28 := Tryz.sizeOf196
  v28 := Tryz.zeroValue196
  t33 := Tryz.underlying199
  a33 := Tryz.isAgg199
  z33 := Tryz.sizeOf199
  v33 := Tryz.zeroValue199 }
def Tryz.sorted115_ren : Go.Shelf.Ren := ⟨fun | 6 => 115 | 8 => 159 | 9 => 160 | 11 => 199 | 13 => 201 | 12 => 200 | 23 => 232 | 24 => 233 | 14 => 223 | 15 => 224 | 16 => 225 | 17 => 226 | 18 => 227 | 19 => 228 | 20 => 229 | 21 => 230 | 22 => 231 | 25 => 253 | 26 => 254 | 27 => 255 | 28 => 256 | 29 => 257 | 30 => 258 | 31 => 266 | n => n, fun | 26 => 9 | 28 => 196 | 24 => 75 | 0 => 0 | 3 => 3 | 37 => 245 | 48 => 285 | 50 => 32 | 4 => 4 | 40 => 306 | 39 => 305 | 45 => 275 | 5 => 5 | 9 => 9 | 51 => 332 | 55 => 335 | 57 => 345 | 58 => 346 | 33 => 199 | n => n, fun | n => n⟩
theorem Tryz.sorted115 : Go.Proofs.SlLaysZ.n6 Tryz.prog Tryz.sorted115_ren := {
  mixed := by kernel_rfl
  f6 := ⟨Tryz.f115.name, by decide, Tryz.func115.trans (congrArg some (by kernel_rfl))⟩
  f8 := ⟨Tryz.f159.name, by decide, Tryz.func159.trans (congrArg some (by kernel_rfl))⟩
  f11 := ⟨Tryz.f199.name, by decide, Tryz.func199.trans (congrArg some (by kernel_rfl))⟩
  t0 := Tryz.underlying0
  a0 := Tryz.isAgg0
  z0 := Tryz.sizeOf0
  v0 := Tryz.zeroValue0
  t24 := Tryz.underlying75
  a24 := Tryz.isAgg75
  z24 := Tryz.sizeOf75
  v24 := Tryz.zeroValue75
  t26 := Tryz.underlying9
  a26 := Tryz.isAgg9
  z26 := Tryz.sizeOf9
  v26 := Tryz.zeroValue9
  t28 := Tryz.underlying196
  a28 := Tryz.isAgg196
  z28 := Tryz.sizeOf196
  v28 := Tryz.zeroValue196
  i26 := by kernel_rfl }
def Tryz.sort160_ren : Go.Shelf.Ren := ⟨fun | 6 => 160 | 8 => 201 | 9 => 200 | 19 => 232 | 20 => 233 | 21 => 223 | 22 => 224 | 23 => 225 | 24 => 226 | 25 => 227 | 26 => 228 | 27 => 229 | 28 => 230 | 29 => 231 | 36 => 253 | 31 => 254 | 32 => 255 | 37 => 256 | 38 => 257 | 39 => 258 | 41 => 266 | n => n, fun | 27 => 75 | 29 => 9 | 3 => 3 | 32 => 245 | 26 => 75 | 0 => 0 | 44 => 285 | 46 => 32 | 4 => 4 | 36 => 306 | 35 => 305 | 41 => 275 | 5 => 5 | 9 => 9 | 53 => 332 | 57 => 335 | 63 => 345 | 64 => 346 | n => n, fun | n => n⟩
theorem Tryz.sort160 : Go.Proofs.SlLaysM.n6 Tryz.prog Tryz.sort160_ren := {
  mixed := by kernel_rfl
  f6 := ⟨Tryz.f160.name, by decide, Tryz.func160.trans (congrArg some (by kernel_rfl))⟩
  f8 := Tryz.func201.trans (congrArg some (by kernel_rfl))
  f9 := ⟨Tryz.f200.name, by decide, Tryz.func200.trans (congrArg some (by kernel_rfl))⟩
  f19 := Tryz.func232.trans (congrArg some (by kernel_rfl))
  f20 := Tryz.func233.trans (congrArg some (by kernel_rfl))
  f21 := ⟨Tryz.f223.name, by decide, Tryz.func223.trans (congrArg some (by kernel_rfl))⟩
  f22 := ⟨Tryz.f224.name, by decide, Tryz.func224.trans (congrArg some (by kernel_rfl))⟩
  f23 := ⟨Tryz.f225.name, by decide, Tryz.func225.trans (congrArg some (by kernel_rfl))⟩
  f24 := ⟨Tryz.f226.name, by decide, Tryz.func226.trans (congrArg some (by kernel_rfl))⟩
  f25 := ⟨Tryz.f227.name, by decide, Tryz.func227.trans (congrArg some (by kernel_rfl))⟩
  f26 := ⟨Tryz.f228.name, by decide, Tryz.func228.trans (congrArg some (by kernel_rfl))⟩
  f27 := ⟨Tryz.f229.name, by decide, Tryz.func229.trans (congrArg some (by kernel_rfl))⟩
  f28 := ⟨Tryz.f230.name, by decide, Tryz.func230.trans (congrArg some (by kernel_rfl))⟩
  f29 := ⟨Tryz.f231.name, by decide, Tryz.func231.trans (congrArg some (by kernel_rfl))⟩
  f31 := Tryz.func254.trans (congrArg some (by kernel_rfl))
  f32 := Tryz.func255.trans (congrArg some (by kernel_rfl))
  f36 := ⟨Tryz.f253.name, by decide, Tryz.func253.trans (congrArg some (by kernel_rfl))⟩
  f37 := ⟨Tryz.f256.name, by decide, Tryz.func256.trans (congrArg some (by kernel_rfl))⟩
  f38 := ⟨Tryz.f257.name, by decide, Tryz.func257.trans (congrArg some (by kernel_rfl))⟩
  f39 := ⟨Tryz.f258.name, by decide, Tryz.func258.trans (congrArg some (by kernel_rfl))⟩
  f41 := ⟨Tryz.f266.name, by decide, Tryz.func266.trans (congrArg some (by kernel_rfl))⟩
  t0 := Tryz.underlying0
  a0 := Tryz.isAgg0
  z0 := Tryz.sizeOf0
  v0 := Tryz.zeroValue0
  t3 := Tryz.underlying3
  a3 := Tryz.isAgg3
  z3 := Tryz.sizeOf3
  v3 := Tryz.zeroValue3
  t4 := Tryz.underlying4
  a4 := Tryz.isAgg4
  z4 := Tryz.sizeOf4
  v4 := Tryz.zeroValue4
  t5 := Tryz.underlying5
  a5 := Tryz.isAgg5
  z5 := Tryz.sizeOf5
  v5 := Tryz.zeroValue5
  t9 := Tryz.underlying9
  a9 := Tryz.isAgg9
  z9 := Tryz.sizeOf9
  v9 := Tryz.zeroValue9
  t26 := Tryz.underlying75
  a26 := Tryz.isAgg75
  z26 := Tryz.sizeOf75
  v26 := Tryz.zeroValue75
  t27 := Tryz.underlying75
  a27 := Tryz.isAgg75
  z27 := Tryz.sizeOf75
  v27 := Tryz.zeroValue75
  t29 := Tryz.underlying9
  a29 := Tryz.isAgg9
  z29 := Tryz.sizeOf9
  v29 := Tryz.zeroValue9
  t32 := Tryz.underlying245
  a32 := Tryz.isAgg245
  z32 := Tryz.sizeOf245
  v32 := Tryz.zeroValue245
  t35 := Tryz.underlying305
  a35 := Tryz.isAgg305
  z35 := Tryz.sizeOf305
  v35 := Tryz.zeroValue305
  t36 := Tryz.underlying306
  a36 := Tryz.isAgg306
  z36 := Tryz.sizeOf306
  v36 := Tryz.zeroValue306
  t41 := Tryz.underlying275
  a41 := Tryz.isAgg275
  z41 := Tryz.sizeOf275
  v41 := Tryz.zeroValue275
  t44 := Tryz.underlying285
  a44 := Tryz.isAgg285
  z44 := Tryz.sizeOf285
  v44 := Tryz.zeroValue285
  t46 := Tryz.underlying32
  a46 := Tryz.isAgg32
  z46 := Tryz.sizeOf32
  v46 := Tryz.zeroValue32
  t53 := Tryz.underlying332
  a53 := Tryz.isAgg332
  z53 := Tryz.sizeOf332
  v53 := Tryz.zeroValue332
  t57 := Tryz.underlying335
  a57 := Tryz.isAgg335
  z57 := Tryz.sizeOf335
  v57 := Tryz.zeroValue335
  t63 := Tryz.underlying345
  a63 := Tryz.isAgg345
  z63 := Tryz.sizeOf345
  v63 := Tryz.zeroValue345
  t64 := Tryz.underlying346
  a64 := Tryz.isAgg346
  z64 := Tryz.sizeOf346
  v64 := Tryz.zeroValue346 }
def Tryz.clone121_ren : Go.Shelf.Ren := ⟨fun | 5 => 121 | 7 => 167 | n => n, fun | 23 => 122 | 25 => 9 | 3 => 9 | 4 => 4 | 20 => 20 | n => n, fun | n => n⟩
theorem Tryz.clone121 : Go.Proofs.SlLaysW.n5 Tryz.prog Tryz.clone121_ren := {
  mixed := by kernel_rfl
  f5 := ⟨Tryz.f121.name, by decide, Tryz.func121.trans (congrArg some (by kernel_rfl))⟩
  f7 := Tryz.func167.trans (congrArg some (by kernel_rfl))
  t4 := Tryz.underlying4
  a4 := Tryz.isAgg4
  z4 := Tryz.sizeOf4
  v4 := Tryz.zeroValue4
  t20 := Tryz.underlying20
  a20 := Tryz.isAgg20
  z20 := Tryz.sizeOf20
  v20 := Tryz.zeroValue20
  t23 := Tryz.underlying122
  a23 := Tryz.isAgg122
  z23 := Tryz.sizeOf122
  v23 := Tryz.zeroValue122 }
theorem Tryz.Builder_Extra_105 : Builder.Extra Tryz.prog Tryz.lays105_ren := {
  sizeBuilder := by kernel_rfl
  liesBuilder := by kernel_rfl
  t5 := Tryz.underlying5
  a5 := Tryz.isAgg5
  z5 := Tryz.sizeOf5
  v5 := Tryz.zeroValue5
  infoByte := by kernel_rfl
  cellsByte := by kernel_rfl
  sizeByte := by kernel_rfl
  neB5 := by decide }
open Go.RowKit Go.Lib in
theorem Tryz.strings_Repeat (s : ByteArray) (c : Nat) (w : World) (hc : c ≤ 9223372036854775807) (hlen : s.size * c ≤ 140737488355328) :
    Calls Tryz.prog 264 #[.string s, .int .i64 c] w fun e w' => e = .returned (.string ⟨(Lib.repeatL s.data.toList c).toArray⟩) ∧ Below w.heap.size w w' := Any.strings_Repeat Tryz.lays105 Tryz.Builder_Extra_105 s c w hc hlen
end Go.Proofs
namespace Go.X
open Go Go.Proofs Go.RowKit Go.Maps Go.Sort Go.Shelf
theorem sorts115 (m : Nat) : AnyZ.SortsIn Tryz.prog Tryz.sorted115_ren Fence.wide m :=
  ⟨fun blk off cap ss W hH hblk hsz => callsIn_wide.2 (AnyM.slices_Sort_string Tryz.sort160 blk off cap ss W hH hblk hsz),
   fun p cap W => callsIn_wide.2 (AnyM.slices_Sort_string_none Tryz.sort160 p cap W)⟩
theorem sortK116 (b nn Bm : Nat) (D0 : DataW Unit) (R : Value → Option (DataW Unit × List MemPlace)) (w : World) (hown : w.ownsMap Tryz.prog 9 R b nn D0) (hmax : Maps.size D0 ≤ maxLen) (hbytes : Maps.size D0 * 16 ≤ 140737488355328) (hlt : Bm < w.heap.size) (hc : w.cell? ⟨Bm, 0, none⟩ = some (.map (some b))) :
    Calls Tryz.prog 115 #[.func (.func 161) #[] #[.pointer (some ⟨Bm, 0, none⟩)]] w (SortOut 9 (fun ss => ss.Perm (strKeys D0)) w) := by
  have hseq := AnyZ.keys_gives (ρ := Tryz.keys116_ren) { Tryz.keys116 with } Fence.wide 2 trivial rfl (by omega) Bm b nn D0 w hlt hc hown
  exact (callsIn_wide (n := 5)).1 (AnyZ.sorted_in Tryz.sorted115 Fence.wide 5 trivial trivial trivial trivial rfl (by omega) (sorts115 _) (enters_of Tryz.func160 (by kernel_rfl) rfl) 161 _ trivial (enters_of Tryz.func161 (by kernel_rfl) rfl) _ _ hmax hbytes w hseq)
theorem sortN116 (Bm : Nat) (w : World) (hlt : Bm < w.heap.size) (hc : w.cell? ⟨Bm, 0, none⟩ = some (.map none)) :
    Calls Tryz.prog 115 #[.func (.func 161) #[] #[.pointer (some ⟨Bm, 0, none⟩)]] w (SortOut 9 (fun ss => ss = []) w) := by
  have hseq := AnyZ.keys_gives_nil (ρ := Tryz.keys116_ren) { Tryz.keys116 with } Fence.wide 2 trivial rfl Bm w hlt hc
  exact (callsIn_wide (n := 5)).1 (AnyZ.sorted_in Tryz.sorted115 Fence.wide 5 trivial trivial trivial trivial rfl (by omega) (sorts115 _) (enters_of Tryz.func160 (by kernel_rfl) rfl) 161 _ trivial (enters_of Tryz.func161 (by kernel_rfl) rfl) _ 0 (Nat.zero_le _) (by omega) w hseq)
theorem sortK171 (b nn Bm : Nat) (D0 : DataW Unit) (R : Value → Option (DataW Unit × List MemPlace)) (w : World) (hown : w.ownsMap Tryz.prog 9 R b nn D0) (hmax : Maps.size D0 ≤ maxLen) (hbytes : Maps.size D0 * 16 ≤ 140737488355328) (hlt : Bm < w.heap.size) (hc : w.cell? ⟨Bm, 0, none⟩ = some (.map (some b))) :
    Calls Tryz.prog 115 #[.func (.func 206) #[] #[.pointer (some ⟨Bm, 0, none⟩)]] w (SortOut 9 (fun ss => ss.Perm (strKeys D0)) w) := by
  have hseq := AnyZ.keys_gives (ρ := Tryz.keys171_ren) { Tryz.keys171 with } Fence.wide 2 trivial rfl (by omega) Bm b nn D0 w hlt hc hown
  exact (callsIn_wide (n := 5)).1 (AnyZ.sorted_in Tryz.sorted115 Fence.wide 5 trivial trivial trivial trivial rfl (by omega) (sorts115 _) (enters_of Tryz.func160 (by kernel_rfl) rfl) 206 _ trivial (enters_of Tryz.func206 (by kernel_rfl) rfl) _ _ hmax hbytes w hseq)
theorem sortN171 (Bm : Nat) (w : World) (hlt : Bm < w.heap.size) (hc : w.cell? ⟨Bm, 0, none⟩ = some (.map none)) :
    Calls Tryz.prog 115 #[.func (.func 206) #[] #[.pointer (some ⟨Bm, 0, none⟩)]] w (SortOut 9 (fun ss => ss = []) w) := by
  have hseq := AnyZ.keys_gives_nil (ρ := Tryz.keys171_ren) { Tryz.keys171 with } Fence.wide 2 trivial rfl Bm w hlt hc
  exact (callsIn_wide (n := 5)).1 (AnyZ.sorted_in Tryz.sorted115 Fence.wide 5 trivial trivial trivial trivial rfl (by omega) (sorts115 _) (enters_of Tryz.func160 (by kernel_rfl) rfl) 206 _ trivial (enters_of Tryz.func206 (by kernel_rfl) rfl) _ 0 (Nat.zero_le _) (by omega) w hseq)
theorem callable_body {P : Program} {f : Nat} {fn : Func} (hf : P.funcs[f]? = some fn) (hn : (fn.name == "runtime.NumGoroutine") = false) (hb : fn.body.isSome = true) : zAU P f := ⟨fn, hf, by simpa using hn, hb⟩
def tabM (l : List (Nat × Prim)) : List (Nat × Prim) := (115, sortedG [161, 206]) :: (121, cloneG) :: l
theorem okM {l : List (Nat × Prim)} (ok : XOK Tryz.prog (Tab Tryz.prog l)) : XOK Tryz.prog (Tab Tryz.prog (tabM l)) := by
  refine Tab.sorted (K := 9) (Tab.clone ok (callable_body Tryz.func121 (by kernel_rfl) rfl) (fun b es cl w hb => AnyW.maps_Clone Tryz.clone121 b es cl w hb) (fun w => AnyW.maps_Clone_nil Tryz.clone121 w)) Tryz.underlying9 (callable_body Tryz.func115 (by kernel_rfl) rfl) ?_ ?_
  · intro g hg
    simp only [List.mem_cons, List.not_mem_nil, or_false] at hg
    rcases hg with rfl | rfl
    · exact sortK116
    · exact sortK171
  · intro g hg
    simp only [List.mem_cons, List.not_mem_nil, or_false] at hg
    rcases hg with rfl | rfl
    · exact sortN116
    · exact sortN171
end Go.X
end
