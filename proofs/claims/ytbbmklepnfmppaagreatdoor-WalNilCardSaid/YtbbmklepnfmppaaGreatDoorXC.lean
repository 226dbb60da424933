/- Rules for running code by the interpreter, and its equations. -/
import Derived.Shelf.Spec.SlicesInsertGrow
import Derived.Test.YtbbmklepnfmppaaGreatDoorXB
set_option linter.unusedSimpArgs false
set_option linter.unusedVariables false
set_option maxHeartbeats 2000000
section
namespace Go.X
open Go.RowKit
structure PLe (P P' : Prog) : Prop where
  code : ∀ f F, P.code f = some F → P'.code f = some F
  prim : ∀ f, P.prim f = P'.prim f
theorem PLe.refl (P : Prog) : PLe P P := ⟨fun _ _ h => h, fun _ => rfl⟩
noncomputable def cfi (P : Prog) : CallF where
  fn := fun f args h => open Classical in if hx : ∃ r n, call P n f args h = some r then some (Classical.choose hx) else none
  yl := fun f args h => open Classical in if hx : ∃ r n, (call P n).yl f args h = some r then some (Classical.choose hx) else none
def Runs (pr : Prog) (c : XC) (t : Fr) (h : Heap) (e : XE) (t' : Fr) (h' : Heap) : Prop := ∃ n, run pr n c t h = some (e, t', h')
def wpc (pr : Prog) (c : XC) (Q : XE → Fr → Heap → Prop) (t : Fr) (h : Heap) : Prop := ∃ e t' h', Runs pr c t h e t' h' ∧ Q e t' h'
inductive KI where
  | code (c : XC)
  | blk (id : Nat)
  | lp (c : XC)
def onN (K : Fr → Heap → Prop) (Q : XE → Fr → Heap → Prop) : XE → Fr → Heap → Prop
  | .normal, t, h => K t h
  | e, t, h => Q e t h
def inB (id : Nat) (Q : XE → Fr → Heap → Prop) : XE → Fr → Heap → Prop
  | .exit i, t, h => if i = id then Q .normal t h else Q (.exit i) t h
  | e, t, h => Q e t h
def contK (pr : Prog) : List KI → (XE → Fr → Heap → Prop) → XE → Fr → Heap → Prop
  | [], Q => Q
  | .code c :: k, Q => onN (wpc pr c (contK pr k Q)) (contK pr k Q)
  | .blk id :: k, Q => inB id (contK pr k Q)
  | .lp c :: k, Q => onN (wpc pr (.loop c) (contK pr k Q)) (contK pr k Q)
structure wpk (pr : Prog) (c : XC) (k : List KI) (Q : XE → Fr → Heap → Prop) (t : Fr) (h : Heap) : Prop where
  out : wpc pr c (contK pr k Q) t h
def wpo (pr : Prog) : List XO → (Fr → Heap → Prop) → Fr → Heap → Prop
  | [], K, t, h => K t h
  | x :: l, K, t, h => ∃ v h', stepW (cfi pr) t h x = some (v, h') ∧ wpo pr l K (t.put x.dst v) h'
def wps (pr : Prog) : List XO → (Fr → Heap → Prop) → Fr → Heap → Prop
  | [], K, t, h => K t h
  | x :: l, K, t, h => ∃ v, stepW (cfi pr) t h x = some (v, h) ∧ wps pr l K (t.put x.dst v) h
section
variable {pr : Prog} {k : List KI} {Q : XE → Fr → Heap → Prop} {t : Fr} {h : Heap}
end
end Go.X
end
section
namespace Go.X
open Go.RowKit
structure Grows (h h' : Heap) : Prop where
  next : h.next ≤ h'.next
  blks : ∀ A, A < h.next → h'.blks.get A = h.blks.get A
  fams : ∀ A, A < h.next → h'.fams.get A = h.fams.get A
theorem Grows.refl (h : Heap) : Grows h h := ⟨Nat.le_refl _, fun _ _ => rfl, fun _ _ => rfl⟩
theorem Grows.trans {h h1 h2 : Heap} (a : Grows h h1) (b : Grows h1 h2) : Grows h h2 :=
  ⟨Nat.le_trans a.next b.next, fun A hA => (b.blks A (Nat.lt_of_lt_of_le hA a.next)).trans (a.blks A hA), fun A hA => (b.fams A (Nat.lt_of_lt_of_le hA a.next)).trans (a.fams A hA)⟩
theorem VRel.back {ρ ρ' : Ren} (hm : ∀ A l, ρ A = some l → ρ' A = some l) {v v0 v' : Value} (h1 : VRel ρ v v0) (h2 : VRel ρ' v v') : VRel ρ v v' := by
  induction h1 generalizing v' with
  | bool b => cases h2; exact .bool b
  | int k n => cases h2; exact .int k n
  | float k n => cases h2; exact .float k n
  | string s => cases h2; exact .string s
  | nilptr => cases h2; exact .nilptr
  | @ptr A off l hA =>
    cases h2 with
    | ptr hA' =>
      have := hm _ _ hA
      rw [hA'] at this; cases this
      exact .ptr hA
  | nilslice => cases h2; exact .nilslice
  | slice hA =>
    cases h2 with
    | slice hA' a b c d e =>
      have := hm _ _ hA
      rw [hA'] at this; cases this
      exact .slice hA a b c d e
  | nilmap => cases h2; exact .nilmap
  | yield hA =>
    cases h2 with
    | yield hA' =>
      have := hm _ _ hA
      rw [hA'] at this; cases this
      exact .yield hA
  | map hA =>
    cases h2 with
    | map hA' =>
      have := hm _ _ hA
      rw [hA'] at this; cases this
      exact .map hA
  | func ha hb h1 h2' ih1 ih2 =>
    cases h2 with
    | func ha' hb' h1' h2'' => exact .func ha' hb' (fun i h h' => ih1 i h (by omega) (h1' i h h')) (fun i h h' => ih2 i h (by omega) (h2'' i h h'))
  | nilFunc => cases h2; exact .nilFunc
  | iface h ih => cases h2 with | iface h' => exact .iface (ih h')
  | nilIface => cases h2; exact .nilIface
  | agg ha h1 ih1 => cases h2 with | agg ha' h1' => exact .agg ha' (fun i h h' => ih1 i h (by omega) (h1' i h h'))
  | tuple ha h1 ih1 => cases h2 with | tuple ha' h1' => exact .tuple ha' (fun i h h' => ih1 i h (by omega) (h1' i h h'))
theorem LRel.back {ρ ρ' : Ren} (hm : ∀ A l, ρ A = some l → ρ' A = some l) {l l0 l' : List Value} (h1 : LRel ρ l l0) (h2 : LRel ρ' l l') : LRel ρ l l' := by
  induction h1 generalizing l' with
  | nil => cases h2; exact .nil
  | cons h hs ih => cases h2 with | cons h' hs' => exact .cons (h.back hm h') (ih hs')
theorem erel_back {ρ ρ' : Ren} (hm : ∀ A l, ρ A = some l → ρ' A = some l) {l : List (Value × Value)} {l0 l' : List MapEntry} (h1 : All2 (ERel ρ) l l0) (h2 : All2 (ERel ρ') l l') : All2 (ERel ρ) l l' := by
  induction h1 generalizing l' with
  | nil => cases h2; exact .nil
  | cons h hs ih => cases h2 with | cons h' hs' => exact .cons ⟨h.1.back hm h'.1, h.2.back hm h'.2⟩ (ih hs')
theorem HRel.drop {P : Program} {base : Nat} {ρ ρ' : Ren} {h h' : Heap} {w w' : World} (wf : HWF h) (hr : HRel P base ρ h w) (hr' : HRel P base ρ' h' w') (hm : ∀ A l, ρ A = some l → ρ' A = some l) (hg : Grows h h') : HRel P base ρ h w' := by
  have hlt : ∀ A b, h.blks.get A = some b → A < h.next := fun A b hb => wf.lt hb
  have hok : ∀ A c, h.okCells A = some c → h'.okCells A = some c := fun A c hc => by
    have hb := (okCells_iff.1 hc).1
    rw [zAD (hg.blks A (hlt A _ hb)) (fun c' hc' => hg.fams c'.fam (wf.fam A c' hc').1)]
    exact hc
  refine ⟨hr'.le, fun A l hA => hr'.bnd A l (hm A l hA), hr.found, ?_, ?_, ?_, ?_, hr.fin, fun A c f l hc hf h0 hro hA => hr'.mark A c f l (hok A c hc) (by rw [hg.fams c.fam (wf.fam A c (okCells_iff.1 hc).1).1]; exact hf) h0 hro (hm A l hA), ⟨?_, ?_, hr.loops.root, fun A l es es' cl hes hA hh => hr'.loops.stamps A l es es' cl (by rw [hg.blks A (hlt A _ hes)]; exact hes) (hm A l hA) hh⟩⟩
  · intro A c l hc hA
    obtain ⟨cs, T, fz, g1, g2, g3, g4, g5⟩ := hr'.cells A c l (hok A c hc) (hm A l hA)
    obtain ⟨cs0, T0, fz0, _, _, _, k4, _⟩ := hr.cells A c l hc hA
    exact ⟨cs, T, fz, g1, g2, g3, LRel.back hm k4 g4, g5⟩
  · intro A B c d l m hne hc hd hA hB
    exact hr'.alias A B c d l m hne (hok A c hc) (hok B d hd) (hm A l hA) (hm B m hB)
  · intro A l es hes hA
    obtain ⟨es', cl, g1, g2, g3⟩ := hr'.maps A l es (by rw [hg.blks A (hlt A _ hes)]; exact hes) (hm A l hA)
    obtain ⟨es0, cl0, _, _, k3⟩ := hr.maps A l es hes hA
    exact ⟨es', cl, g1, g2, erel_back hm k3 g3⟩
  · intro A B es fs l m hne h1 h2 hA hB
    exact hr'.malias A B es fs l m hne (by rw [hg.blks A (hlt A _ h1)]; exact h1) (by rw [hg.blks B (hlt B _ h2)]; exact h2) (hm A l hA) (hm B m hB)
  · intro A l r hb hA
    obtain ⟨q, g1, g2, g3⟩ := hr'.loops.recd A l r (by rw [hg.blks A (hlt A _ hb)]; exact hb) (hm A l hA)
    obtain ⟨q0, _, _, k3⟩ := hr.loops.recd A l r hb hA
    exact ⟨q, g1, g2, ⟨⟨g3.fr.size, fun i => VRel.back hm (k3.fr.rel i) (g3.fr.rel i)⟩, g3.ps, g3.pb, g3.asg, g3.body, g3.nra, g3.nrb, g3.st, g3.pend⟩⟩
  · intro A B r s l m hne h1 h2 hA hB
    exact hr'.loops.apart A B r s l m hne (by rw [hg.blks A (hlt A _ h1)]; exact h1) (by rw [hg.blks B (hlt B _ h2)]; exact h2) (hm A l hA) (hm B m hB)
def flatA : Value → Bool
  | .bool _ | .int _ _ | .float _ _ | .string _ | .nilFunc | .nilIface => true
  | .pointer none | .slice none 0 0 | .map none => true
  | .agg cs => cs.toList.all zI
  | _ => false
def flatV : Value → Bool
  | .tuple cs => cs.toList.all flatA
  | v => flatA v
theorem flatA_rel {ρ : Ren} : ∀ {v : Value}, flatA v = true → VRel ρ v v := by
  intro v hv
  unfold flatA at hv
  split at hv
  · exact .bool _
  · exact .int _ _
  · exact .float _ _
  · exact .string _
  · exact .nilFunc
  · exact .nilIface
  · exact .nilptr
  · exact .nilslice
  · exact .nilmap
  · exact VRel.agg_of (LRel.consts hv)
  · cases hv
theorem flat_rel {ρ : Ren} : ∀ {v : Value}, flatV v = true → VRel ρ v v := by
  intro v hv
  unfold flatV at hv
  split at hv
  · refine VRel.tuple_of (All2.refl_of _ fun x hx => ?_)
    rw [List.all_eq_true] at hv
    exact flatA_rel (hv x hx)
  · exact flatA_rel hv
def Comes (pr : Prog) (F : XF) (args : List Value) (h : Heap) (v : Value) : Prop :=
  wpc pr F.body (fun e t h' => (e = .normal ∨ e = .ret) ∧ resultX t h' F.results = some v ∧ Grows h h') (initFr args 0 .leaf) h
theorem Comes.of {pr : Prog} {F : XF} {args : List Value} {h : Heap} {v : Value} (hw : wpk pr F.body [] (fun e t h' => (e = .normal ∨ e = .ret) ∧ resultX t h' F.results = some v ∧ Grows h h') (initFr args 0 .leaf) h) : Comes pr F args h v := hw.out
def Heap.at (h : Heap) (n : Nat) : Heap := { h with next := n }
theorem HWF.at {h : Heap} (wf : HWF h) {n : Nat} (hn : h.next ≤ n) : HWF (h.at n) :=
  ⟨fun A hA => wf.fresh A (Nat.le_trans hn hA), fun A c hc => ⟨Nat.lt_of_lt_of_le (wf.fam A c hc).1 hn, (wf.fam A c hc).2⟩, fun A c f h1 h2 => wf.top A c f h1 h2⟩
theorem HRel.at {P : Program} {base : Nat} {ρ : Ren} {h : Heap} {w : World} (hr : HRel P base ρ h w) (n : Nat) : HRel P base ρ (h.at n) w := hr.congr (fun _ => rfl) (fun _ => rfl)
theorem HRel.unat {P : Program} {base : Nat} {ρ : Ren} {h : Heap} {w : World} {n : Nat} (hr : HRel P base ρ (h.at n) w) : HRel P base ρ h w := hr.congr (fun _ => rfl) (fun _ => rfl)
theorem callrel_of_comes {P : Program} {Pg : Prog} (ok : XOK P Pg) {f : Nat} {fn : Func} {F : XF} (hf : P.funcs[f]? = some fn) (hF : funcC P fn = some F) {args : List Value} {h : Heap} {v : Value} (hn : args.length = F.nargs)
    (hk : ∀ base ρ w args', HRel P base ρ h w → LRel ρ args args' → ∃ v0, VRel ρ v v0) (hc : ∀ n, h.next ≤ n → HWF (h.at n) → Comes Pg F args (h.at n) v) : CallRel P f args h v h := by
  intro base ρ w args' hr wf _ hargs
  obtain ⟨N, hN⟩ := hr.fin
  have hle : h.next ≤ max N h.next := Nat.le_max_right _ _
  obtain ⟨e, t', h1, ⟨n, hrun⟩, he, hres, hg⟩ := hc (max N h.next) hle (wf.at hle)
  obtain ⟨hcode, _⟩ := code_loop_ok ok n
  unfold funcC at hF
  split at hF
  · rename_i c hbody
    split at hF
    · rename_i x r hx hr'
      split at hF
      · rename_i hsz
        cases hF
        obtain ⟨hnx, hw⟩ := hcode _ _ _ _ _ _ _ _ hx hrun
        refine (callsIn_wide (n := 0)).1 (callsIn_of_wp_marks hf hbody trivial (hw none (.inl rfl) base w.heap.size ρ [] _ w _ (init_rel hargs (by simp only at hn; omega)) rfl (Nat.le_refl _) (marks_nil _ _ _ _) (hr.at _) (wf.at hle) (fun A h2 _ => hN A (by have : (h.at (max N h.next)).next = max N h.next := rfl; omega)) fun a' w' ρ' D' q1 q2 _ qm q3 q4 q5 => ?_))
        obtain ⟨v0, hv0⟩ := hk base ρ w args' hr hargs
        obtain ⟨ds, rfl, d1, d2⟩ := qm
        have fin := leave_marks (F := Fence.wide) (n := 0) (P := P) (fn := fn) (tmps := a'.tmps) (R := fun e w' => ∃ v' ρ', e = .returned v' ∧ HRel P base ρ' h w' ∧ HWF h ∧ Ext base ρ h w ρ' h w' ∧ VRel ρ' v v') hr.le (Nat.le_refl _) (fun w2 k1 k2 => by
          obtain ⟨v', g1, g2⟩ := results_run k1 q1 hr' hres
          have hrel : HRel P base ρ h w2 := (HRel.drop (wf.at hle) (hr.at _) k1 k2.mono hg).unat
          have hext : Ext base ρ h w ρ h w2 := ⟨fun _ _ h => h, fun _ h => absurd rfl h, Nat.le_refl _, fun _ _ h => h, fun _ _ _ => ⟨rfl, rfl⟩, k2.below, k2.frame, fun A l h1 h2 => (by rw [h1] at h2; cases h2)⟩
          exact ⟨v', g1, v', ρ, rfl, hrel, wf, hext, hv0.back k2.mono g2⟩) ds w' d1 d2 q3 q5
        rcases he with rfl | rfl
        · simp only [exitOf, bodyPostM]; rw [q2]; exact fin
        · simp only [exitOf, bodyPostM]; rw [q2]; exact fin
      · cases hF
    · cases hF
  · cases hF
end Go.X
namespace Go.X
abbrev T (i : Nat) : Operand := .tmp i
abbrev C (v : Value) : Operand := .const v
end Go.X
end
section
namespace Go.X
section
variable {cf : CallF} {t : Fr} {h : Heap} {d : Option Nat}
def lenVV : Value → Option Value | .slice _ n _ => some (.int .i64 n) | _ => none
end
end Go.X
namespace Go.X
end Go.X
namespace Go.X
def boundV (x : Option Value) (d y : Nat) : Option Nat := match x with
  | none => some d
  | some (.int _ i) => if 0 ≤ i ∧ i ≤ y then some i.toNat else none
  | some _ => none
def zX (len cap : Nat) (lo hi mx : Option Value) : Option (Nat × Nat × Nat) :=
  match boundV mx cap cap with
  | some m => match boundV hi len m with
    | some h => match boundV lo 0 h with
      | some l => some (l, h, m)
      | none => none
    | none => none
  | none => none
end Go.X
namespace Go.X
end Go.X
namespace Go.X
end Go.X
namespace Go.X
end Go.X
end
section
namespace Go.X
section
variable {k : IntKind} {x y : Nat}
end
section
variable {k k' : IntKind} {x : Nat}
end
section
variable {k' : IntKind} {x y : Nat}
end
section
variable {k' : IntKind} {x y : Nat}
end
section
variable {k' : IntKind} {x y : Nat}
end
theorem wrap_i64 {x : Int} (h1 : -9223372036854775808 ≤ x) (h2 : x < 9223372036854775808) : IntKind.i64.wrap x = x := by
  simp only [IntKind.wrap, IntKind.bits, IntKind.signed]
  simp only [Bool.true_and, decide_eq_true_eq, Int.reducePow, Nat.reduceSub, ge_iff_le]
  split <;> omega
end Go.X
end
section
namespace Go.X
def Var (h : Heap) (A : Nat) (l : List Value) : Prop := A < h.next ∧ h.blks.get A = some (.cells ⟨l, A, 0, false⟩) ∧ ∃ s n, h.fams.get A = some ⟨s, A, n⟩
def Heap.wr (h : Heap) (A : Nat) (l : List Value) : Heap := { h with blks := h.blks.set A (.cells ⟨l, A, 0, false⟩), fams := h.fams.set A ⟨h.next, A, match h.fams.get A with | some f => f.top | none => 0⟩ }
section
variable {h h0 : Heap} {A B : Nat} {l m : List Value}
theorem Var.ok (hv : Var h A l) : h.okCells A = some ⟨l, A, 0, false⟩ := by
  obtain ⟨_, h1, s, n, h2⟩ := hv
  unfold Heap.okCells
  rw [h1]
  dsimp only
  rw [h2]
  simp
theorem Var.load (hv : Var h A l) {i : Nat} {sp : Option Nat} : h.load ⟨A, i, sp⟩ = l[i]? := by simp only [Heap.load, hv.ok]
theorem Var.loadN (hv : Var h A l) {i n : Nat} {sp : Option Nat} : h.loadN ⟨A, i, sp⟩ n = takeN l i n := by simp only [Heap.loadN, hv.ok]
theorem Var.all (hv : Var h A l) {sp : Option Nat} : h.loadN ⟨A, 0, sp⟩ l.length = some l := by
  rw [hv.loadN]; simp [takeN, Nat.ble_eq_true_of_le (Nat.le_refl l.length)]
theorem Var.store (hv : Var h A l) {i : Nat} {sp : Option Nat} {vs : List Value} (hi : i + vs.length ≤ l.length) (ho : vs.all oneC = true) : h.store ⟨A, i, sp⟩ vs = some (h.wr A (putN l i vs)) := by
  obtain ⟨_, _, s, n, h2⟩ := id hv
  simp only [Heap.store, hv.ok]
  have hb : (i + vs.length).ble l.length = true := Nat.ble_eq_true_of_le hi
  rw [hb, ho]
  simp [h2, Heap.wr]
theorem Var.wr (hv : Var h A l) : Var (h.wr A m) A m := ⟨hv.1, PT.get_set_eq _ _ _, h.next, _, PT.get_set_eq _ _ _⟩
theorem Var.new_self : Var (h.new l) h.next l := ⟨Nat.lt_succ_self _, PT.get_set_eq _ _ _, _, _, PT.get_set_eq _ _ _⟩
theorem Grows.new : Grows h (h.new l) := ⟨Nat.le_succ _, fun A hA => PT.get_set_ne _ _ (by omega), fun A hA => PT.get_set_ne _ _ (by omega)⟩
theorem Grows.newB : Grows h (h.newB l) := ⟨Nat.le_succ _, fun A hA => PT.get_set_ne _ _ (by omega), fun A hA => PT.get_set_ne _ _ (by omega)⟩
theorem Grows.wr (hg : Grows h0 h) (hA : h0.next ≤ A) : Grows h0 (h.wr A l) :=
  ⟨hg.next, fun B hB => (PT.get_set_ne _ _ (by omega)).trans (hg.blks B hB), fun B hB => (PT.get_set_ne _ _ (by omega)).trans (hg.fams B hB)⟩
variable {cf : CallF} {t : Fr}
def doneH : Option Heap → Option (Value × Heap)
  | some h => some (.tuple #[], h)
  | none => none
def storeV (h : Heap) (n : Nat) (a v : Value) : Option (Value × Heap) := match a with
  | .pointer (some a) => if (zH v).length = n then (if n = 0 then none else doneH (h.store a (zH v))) else none
  | _ => none
theorem storeV_one {a : Addr} {v : Value} (hv : zH v = [v]) : storeV h 1 (.pointer (some a)) v = doneH (h.store a [v]) := by simp [storeV, hv]
end
end Go.X
namespace Go.X
section
variable {h : Heap} {A : Nat} {l m : List Value}
end
end Go.X
namespace Go.X
section
variable {h : Heap} {A : Nat} {l m : List Value}
theorem Var.loadAll (hv : Var h A l) {n : Nat} (hl : l.length = n) {sp : Option Nat} : h.loadN ⟨A, 0, sp⟩ n = some l := by subst hl; exact hv.all
end
end Go.X
namespace Go.X
end Go.X
namespace Go.X
theorem Grows.ok {h h' : Heap} (hg : Grows h h') (wf : HWF h) {A : Nat} {c : Cells} (hc : h.okCells A = some c) : h'.okCells A = some c := by
  have hb := (okCells_iff.1 hc).1
  rw [zAD (hg.blks A (wf.lt hb)) (fun c' hc' => hg.fams c'.fam (wf.fam A c' hc').1)]
  exact hc
theorem Grows.load {h h' : Heap} (hg : Grows h h') (wf : HWF h) {a : Addr} {v : Value} (hl : h.load a = some v) : h'.load a = some v := by
  unfold Heap.load at *
  split at hl
  · rename_i c hc; rw [hg.ok wf hc]; exact hl
  · cases hl
theorem Grows.loadN {h h' : Heap} (hg : Grows h h') (wf : HWF h) {a : Addr} {n : Nat} {l : List Value} (hl : h.loadN a n = some l) : h'.loadN a n = some l := by
  unfold Heap.loadN at *
  split at hl
  · rename_i c hc; rw [hg.ok wf hc]; exact hl
  · cases hl
end Go.X
namespace Go.X
end Go.X
end
section
namespace Go.X
open Go.RowKit
abbrev Prim := List Value → Heap → Option (Value × Heap)
def Tab (P : Program) (l : List (Nat × Prim)) : Prog := ⟨fun f => (P.funcs[f]?).bind (funcC P), fun f => (l.find? (fun q => q.1.beq f)).map (·.2)⟩
theorem Tab.nil {P : Program} (hm : P.follows .mixedOrders = true) : XOK P (Tab P []) := by
  refine ⟨hm, fun f F hF => ?_, fun f g hg => by cases hg⟩
  simp only [Tab, Option.bind_eq_some_iff] at hF
  exact hF
theorem Tab.cons {P : Program} {l : List (Nat × Prim)} (ok : XOK P (Tab P l)) {f : Nat} {g : Prim}
    (hg : ∀ args h v h', g args h = some (v, h') → ze P f ∧ h.next ≤ h'.next ∧ CallRel P f args h v h') : XOK P (Tab P ((f, g) :: l)) := by
  refine ⟨ok.mixed, ok.code, fun k g' hk args h v h' hr => ?_⟩
  simp only [Tab, List.find?_cons] at hk
  cases hb : f.beq k with
  | false => rw [hb] at hk; exact ok.prim k g' hk args h v h' hr
  | true =>
    rw [hb] at hk
    cases hk
    rw [← Nat.eq_of_beq_eq_true hb]
    exact hg args h v h' hr
def pureG (s : List Value → Option Value) : Prim := fun args h => match s args with | some v => some (v, h) | none => none
theorem callable_of {P : Program} {f : Nat} {fn : Func} {F : XF} (hf : P.funcs[f]? = some fn) (hF : funcC P fn = some F) : ze P f := by
  unfold funcC at hF
  split at hF
  · rename_i c hbody
    split at hF
    · split at hF
      · rename_i hsz; exact ⟨fn, hf, hsz.2, by rw [hbody]; rfl⟩
      · cases hF
    · cases hF
  · cases hF
theorem Tab.pure {P : Program} {l : List (Nat × Prim)} (ok : XOK P (Tab P l)) {f : Nat} {fn : Func} {F : XF} (hf : P.funcs[f]? = some fn) (hF : funcC P fn = some F) {s : List Value → Option Value}
    (hs : ∀ args v, s args = some v → args.length = F.nargs ∧ flatV v = true ∧ ∀ h, Comes (Tab P l) F args h v) : XOK P (Tab P ((f, pureG s) :: l)) := by
  refine Tab.cons ok fun args h v h' hr => ?_
  unfold pureG at hr
  split at hr
  · rename_i v1 hv
    cases hr
    obtain ⟨h1, h2, h3⟩ := hs args v hv
    exact ⟨callable_of hf hF, Nat.le_refl _, callrel_of_comes ok hf hF h1 (fun _ _ _ _ _ _ => ⟨v, flat_rel h2⟩) fun n _ _ => h3 _⟩
  · cases hr
end Go.X
end
section
namespace Go.X
open Go.RowKit
theorem noAddr_eq {ρ : Ren} {v v' : Value} (hv : zI v = true) (h : VRel ρ v v') : v' = v := by
  cases h with
  | bool b => rfl
  | int k n => rfl
  | float k n => rfl
  | string s => rfl
  | nilptr => rfl
  | ptr h => cases hv
  | nilslice => rfl
  | slice h => cases hv
  | nilmap => rfl
  | map h => cases hv
  | yield h => cases hv
  | func => cases hv
  | nilFunc => rfl
  | iface h => cases hv
  | nilIface => rfl
  | agg => cases hv
  | tuple => cases hv
theorem noAddr_list {ρ : Ren} {l l' : List Value} (h : LRel ρ l l') (hl : l.all zI = true) : l' = l := by
  induction h with
  | nil => rfl
  | cons h _ ih =>
    simp only [List.all_cons, Bool.and_eq_true] at hl
    rw [noAddr_eq hl.1 h, ih hl.2]
theorem arr_toList {a b : Array Value} (h : a.toList = b.toList) : a = b := by cases a; cases b; exact congrArg _ h
theorem flatA_eq {ρ : Ren} {v v' : Value} (hv : flatA v = true) (h : VRel ρ v v') : v' = v := by
  cases h with
  | bool b => rfl
  | int k n => rfl
  | float k n => rfl
  | string s => rfl
  | nilptr => rfl
  | ptr h => cases hv
  | nilslice => rfl
  | slice h => cases hv
  | nilmap => rfl
  | map h => cases hv
  | yield h => cases hv
  | func => cases hv
  | nilFunc => rfl
  | iface h => cases hv
  | nilIface => rfl
  | agg ha h => exact congrArg _ (arr_toList (noAddr_list (zb ha h) hv))
  | tuple ha h => cases hv
theorem flatA_list {ρ : Ren} {l l' : List Value} (h : LRel ρ l l') (hl : l.all flatA = true) : l' = l := by
  induction h with
  | nil => rfl
  | cons h _ ih =>
    simp only [List.all_cons, Bool.and_eq_true] at hl
    rw [flatA_eq hl.1 h, ih hl.2]
theorem flat_eq {ρ : Ren} {v v' : Value} (hv : flatV v = true) (h : VRel ρ v v') : v' = v := by
  cases h with
  | tuple ha h => exact congrArg _ (arr_toList (flatA_list (zb ha h) hv))
  | bool b => rfl
  | int k n => rfl
  | float k n => rfl
  | string s => rfl
  | nilptr => rfl
  | ptr h => cases hv
  | nilslice => rfl
  | slice h => cases hv
  | nilmap => rfl
  | map h => cases hv
  | yield h => cases hv
  | func => cases hv
  | nilFunc => rfl
  | iface h => cases hv
  | nilIface => rfl
  | agg ha h => exact flatA_eq (ρ := ρ) hv (.agg ha h)
theorem flat_lrel {ρ ρ' : Ren} {l l' : List Value} (h : LRel ρ l l') (hl : l.all flatV = true) : LRel ρ' l l' := by
  induction h with
  | nil => exact .nil
  | cons h _ ih =>
    simp only [List.all_cons, Bool.and_eq_true] at hl
    refine .cons ?_ (ih hl.2)
    rw [flat_eq hl.1 h]
    exact flat_rel hl.1
theorem HRel.below {P : Program} {base : Nat} {ρ : Ren} {h : Heap} {w w' : World} (hr : HRel P base ρ h w) (hb : Below w.heap.size w w') : HRel P base ρ h w' := by
  refine ⟨Nat.le_trans hr.le hb.size, fun A l hA => Nat.lt_of_lt_of_le (hr.bnd A l hA) hb.size, hr.found, ?_, hr.alias, ?_, hr.malias, hr.fin, fun A c f l h1 h2 h3 h4 h5 => (hr.mark A c f l h1 h2 h3 h4 h5).same (hb.block _ (hr.bnd A l h5)),
    hr.loops.sameW (fun A l hA _ => hb.block _ (hr.bnd A l hA))⟩
  · intro A c l hc hA
    obtain ⟨cs, T, fz, h1, h2⟩ := hr.cells A c l hc hA
    exact ⟨cs, T, fz, by rw [hb.block _ (hr.bnd A l hA)]; exact h1, h2⟩
  · intro A l es hes hA
    obtain ⟨es', cl, h1, h2⟩ := hr.maps A l es hes hA
    exact ⟨es', cl, by rw [hb.block _ (hr.bnd A l hA)]; exact h1, h2⟩
theorem callrel_of_closed {P : Program} {Pg : Prog} (ok : XOK P Pg) {n f : Nat} {args : List Value} {v : Value} {h' : Heap} (hc : call Pg n f args Heap.empty = some (v, h')) (ha : args.all flatV = true) (hv : flatV v = true) (h : Heap) :
    CallRel P f args h v h := by
  intro base ρ w args' hr wf hpre hargs
  refine (calls_of_call ok hc (flat_lrel hargs ha) w).mono fun e w' hq => ?_
  obtain ⟨v', ρ', rfl, q1, q2, q3⟩ := hq
  obtain rfl := flat_eq hv q2
  exact ⟨_, ρ, rfl, hr.below q3, wf, ⟨fun _ _ h => h, fun _ h => absurd rfl h, Nat.le_refl _, fun _ _ h => h, fun _ _ _ => ⟨rfl, rfl⟩, q3.mono hr.le, fun r h1 _ => q3.block r h1, fun A l h1 h2 => by rw [h1] at h2; cases h2⟩, flat_rel hv⟩
theorem callable_of_call {P : Program} {Pg : Prog} (ok : XOK P Pg) {n f : Nat} {args : List Value} {v : Value} {h h' : Heap} (hc : call Pg n f args h = some (v, h')) : ze P f :=
  ((call_cfok ok n).fn f args h v h' hc).1
theorem Tab.closed {P : Program} {l : List (Nat × Prim)} (ok : XOK P (Tab P l)) {f : Nat} {s : List Value → Option Value}
    (hs : ∀ args v, s args = some v → args.all flatV = true ∧ flatV v = true ∧ ∃ n h', call (Tab P l) n f args Heap.empty = some (v, h')) : XOK P (Tab P ((f, pureG s) :: l)) := by
  refine Tab.cons ok fun args h v h' hr => ?_
  unfold pureG at hr
  split at hr
  · rename_i v1 hv
    cases hr
    obtain ⟨h1, h2, n, h', h3⟩ := hs args v hv
    exact ⟨callable_of_call ok h3, Nat.le_refl _, callrel_of_closed ok h3 h1 h2 h⟩
  · cases hr
end Go.X
end
section
namespace Go.X
open Go.RowKit
end Go.X
end
section
namespace Go.X
open Go.RowKit
def insertAt (esz bytes : Nat) (h : Heap) (a : Addr) (n cap i : Nat) (m : Nat) (news : List Value) : Option (Value × Heap) :=
  match h.loadN a (n * esz), h.append esz bytes (.slice (some a) n cap) m news with
  | some olds, some (.slice (some b) n' cap', h1) => match h1.store ⟨b.block, b.off + i * esz, none⟩ (news ++ olds.drop (i * esz)) with
    | some h2 => some (.slice (some b) n' cap', h2)
    | none => none
  | _, _ => none
def apartX (h : Heap) (a va : Addr) : Bool := match h.okCells a.block, h.okCells va.block with
  | some c, some d => !(c.fam.beq d.fam) && !c.ro && !d.ro && (match h.fams.get d.fam with | some f => f.since.beq 0 | none => false)
  | _, _ => false
def insertG (esz bytes : Nat) : Prim := fun args h => match args with
  | [.slice base n cap, .int .i64 i, .slice (some va) m vc] =>
    if m = 0 ∨ i < 0 ∨ (n : Int) < i then none else
    match h.loadN va (m * esz) with
    | none => none
    | some news => if i = (n : Int) then h.append esz bytes (.slice base n cap) m news else
      match base with
      | none => none
      | some a => if apartX h a va = true then insertAt esz bytes h a n cap i.toNat m news else none
  | _ => none
structure InsFn (P : Program) (f : Nat) (st el : TypeId) (sz by_ : Nat) (z : Value) : Prop where
  call : ze P f
  und : P.underlying st = some (.slice el)
  info : (P.info? el).map (fun i => (i.zero, i.size, i.bytes)) = some (some z, sz, by_)
  zero : zO P el = some z.cells.toList
  size : zB P el = some sz
  bytes : bytesX P el = some by_
  zlen : z.cells.toList.length = sz
  by0 : by_ ≠ 0
  sz0 : sz ≠ 0
  end_ : ∀ (base : Option Addr) (n c m vc : Nat) (va : Option Addr) (v : Value) (w w' : World), 0 < m → n ≤ c → (base = none → n = 0) → (Builtin.append_ #[st, st] st #[.slice base n c, .slice va m vc]).run P w = .ok v w' →
    Calls P f #[.slice base n c, .int .i64 n, .slice va m vc] w fun e w1 => e = .returned v ∧ w1 = w'
  shift : ∀ (b off n c i vb voff m vc : Nat) (cs vs : List Value) (w : World), i < n → 0 < m → n + m ≤ c → n + m ≤ 9223372036854775807 → vb ≠ b → cs.length = n * sz → vs.length = m * sz →
    (∀ j v, cs[j]? = some v → w.cell? ⟨b, off + j, none⟩ = some v) → (∀ j, j < (n + m) * sz → (w.cell? ⟨b, off + j, none⟩).isSome = true) → (∀ j, j < (n + m) * sz → w.frozen? ⟨b, off + j, none⟩ = false) →
    (∀ j v, vs[j]? = some v → w.cell? ⟨vb, voff + j, none⟩ = some v) → (∀ v ∈ cs.drop (i * sz), v.oneCell' = true) → (∀ v ∈ vs, v.oneCell' = true) →
    ∀ (tA tB : TypeId) (kA kB : Nat), w.shape? vb = some (tA, kA) → w.shape? b = some (tB, kB) → kB ≠ 0 → w.frozen? ⟨vb, voff, none⟩ = false → w.frozen? ⟨vb, kA, none⟩ = false →
    Calls P f #[.slice (some ⟨b, off, none⟩) n c, .int .i64 i, .slice (some ⟨vb, voff, none⟩) m vc] w fun e w' =>
      e = .returned (.slice (some ⟨b, off, none⟩) (n + m) c) ∧ w' = (w.drew.setCells b (off + (i + m) * sz) (cs.drop (i * sz))).setCells b (off + i * sz) vs
  grow : ∀ (b off n c i vb voff m vc : Nat) (cs vs : List Value) (w : World), i < n → 0 < m → n ≤ c → c < n + m → (n + m) * by_ ≤ 140737488355328 → cs.length = n * sz → vs.length = m * sz →
    (∀ j v, cs[j]? = some v → w.cell? ⟨b, off + j, none⟩ = some v) → (∀ j v, vs[j]? = some v → w.cell? ⟨vb, voff + j, none⟩ = some v) → (∀ v ∈ cs.drop (i * sz), v.oneCell' = true) → (∀ v ∈ vs, v.oneCell' = true) →
    Calls P f #[.slice (some ⟨b, off, none⟩) n c, .int .i64 i, .slice (some ⟨vb, voff, none⟩) m vc] w fun e w' =>
      e = .returned (.slice (some ⟨w.heap.size, 0, none⟩) (n + m) (grownCap w (n + m) c el)) ∧
      w' = (((w.alloc (.cells ((cs.take (i * sz)).toArray ++ Builtin.zeroCells z.cells (n + m - i) ++ Builtin.zeroCells z.cells (grownCap w (n + m) c el - (n + m))) el)).drew.setCells w.heap.size (i * sz) vs).drew).setCells w.heap.size ((i + m) * sz) (cs.drop (i * sz))
section
variable {P : Program} {f : Nat} {st el : TypeId} {sz by_ : Nat} {z : Value} {ρ : Ren} {w w' : World} {base : Nat} {h h' h1 : Heap}
theorem append_imagined (I : InsFn P f st el sz by_ z) (hr : HRel P base ρ h w) (wf : HWF h) {s s' vs' v1 : Value} {va : Addr} {m vc : Nat} {news : List Value} (hs : VRel ρ s s') (hv : VRel ρ (.slice (some va) m vc) vs') (hm : m ≠ 0)
    (hn : h.loadN va (m * sz) = some news) (ha : h.append sz by_ s m news = some (v1, h1)) (hpre : ∀ A, h.next ≤ A → A < h1.next → ρ A = none) :
    ∃ v1' w1 ρ1, (Builtin.append_ #[st, st] st #[s', vs']).run P w = .ok v1' w1 ∧ HRel P base ρ1 h1 w1 ∧ HWF h1 ∧ Ext base ρ h w ρ1 h1 w1 ∧ VRel ρ1 v1 v1' := by
  have hst : Stepped P base ρ h w (fun | .tmp 0 => s' | _ => vs') ⟨none, .call { callee := .builtin .append, args := #[.tmp 0, .tmp 1], argTypes := #[st, st] }, st, "", #[], none⟩ v1 h1 := by
    refine e_append (t := (PT.leaf.set 0 s).set 1 (.slice (some va) m vc)) (sx := .tmp 0) (x := .tmp 1) hr wf hpre rfl rfl rfl rfl I.und (.inl ⟨el, I.und⟩) I.zero I.size I.bytes I.zlen hs hv ?_
    have e0 : Fr.eval ((PT.leaf.set 0 s).set 1 (.slice (some va) m vc)) (.tmp 0) = s := by simp [Fr.eval, Fr.get, PT.get_set]
    have e1 : Fr.eval ((PT.leaf.set 0 s).set 1 (.slice (some va) m vc)) (.tmp 1) = .slice (some va) m vc := by simp [Fr.eval, Fr.get, PT.get_set]
    simp only [effX, e0, e1, if_neg hm, hn, ha]
  obtain ⟨v', w1, ρ1, hrun, q1, q2, q3, q4⟩ := hst
  obtain ⟨cs, hb⟩ := za (P := P) (e := fun | .tmp 0 => s' | _ => vs') (o := ⟨none, .call { callee := .builtin .append, args := #[.tmp 0, .tmp 1], argTypes := #[st, st] }, st, "", #[], none⟩) w rfl
  have hb' : (execOp (fun | .tmp 0 => s' | _ => vs') ⟨none, .call { callee := .builtin .append, args := #[.tmp 0, .tmp 1], argTypes := #[st, st] }, st, "", #[], none⟩).run P w = ((Builtin.append_ #[st, st] st #[s', vs']).run P w).andThen fun r w => .ok (.value r) w := by
    rw [hb]
    simp [builtin]
  rw [hb'] at hrun
  cases hq : (Builtin.append_ #[st, st] st #[s', vs']).run P w with
  | ok r w2 =>
    rw [hq] at hrun
    rcases hrun with hrun | ⟨hrun, _⟩
    · cases hrun; exact ⟨_, _, ρ1, rfl, q1, q2, q3, q4⟩
    · cases hrun
  | halt a b =>
    rw [hq] at hrun
    rcases hrun with hrun | ⟨hrun, _⟩ <;> cases hrun
theorem HRel.swap (hr : HRel P base ρ h w) (he : w'.heap = w.heap) : HRel P base ρ h w' := hr.heap_eq he
theorem Ext.swap {ρ' : Ren} {w1 : World} (hx : Ext base ρ h w ρ' h' w1) (he : w'.heap = w1.heap) (h1 : w'.os = w.os) (h2 : w'.tape = w.tape) (h3 : w'.output = w.output) : Ext base ρ h w ρ' h' w' :=
  ⟨hx.mono, hx.new, hx.next, hx.keep, hx.phan, ⟨h1, h2, h3, by rw [he]; exact hx.below.size, fun k hk => by rw [he]; exact hx.below.block k hk⟩, fun r h1 h2 => by rw [he]; exact hx.frame r h1 h2, hx.newb⟩
theorem cells_ext {cs ds : Array Value} {T : TypeId} {fz : Nat × Nat} (h : cs.toList = ds.toList) : Obj.cells cs T fz = Obj.cells ds T fz := by
  rw [Array.toList_inj.1 h]
theorem putN_at {l a b c : List Value} (o : Nat) (hl : l = a ++ b ++ c) (ho : o = a.length) {vs : List Value} (hv : vs.length = b.length) : putN l o vs = a ++ vs ++ c := by
  subst hl ho
  unfold putN
  rw [hv, ← List.length_append, List.drop_left, List.append_assoc a b c, List.take_left]
theorem heap_shift {b : Nat} {cs : Array Value} {T : TypeId} {fz : Nat × Nat} (hb : w.heap[b]? = some (.cells cs T fz)) {A O1 O2 R news g : List Value} (hl : cs.toList = A ++ (O1 ++ O2) ++ g ++ R) (hg : g.length = news.length) :
    ((w.drew.setCells b (A.length + (O1.length + news.length)) O2).setCells b (A.length + O1.length) news).heap = ((w.setCells b (A.length + (O1.length + O2.length)) news).setCells b (A.length + O1.length) (news ++ O2)).heap := by
  have hsz : cs.size = A.length + (O1.length + O2.length) + g.length + R.length := by
    have := congrArg List.length hl
    simpa [Nat.add_assoc] using this
  obtain ⟨c1, p1, p2, p3, p4, _⟩ := zW b O2 (A.length + (O1.length + news.length)) w.drew cs T fz hb (by omega)
  have hs1 : c1.toList = A ++ O1 ++ (O2 ++ g).take news.length ++ O2 ++ R := by
    rw [p2]
    have e : cs.toList = (A ++ O1 ++ (O2 ++ g).take news.length) ++ (O2 ++ g).drop news.length ++ R := by
      rw [hl]
      simp only [List.append_assoc]
      congr 2
      rw [← List.append_assoc, ← List.append_assoc ((O2 ++ g).take news.length), List.take_append_drop]
    refine putN_at (b := (O2 ++ g).drop news.length) _ e ?_ ?_
    · simp; omega
    · simp; omega
  have hl1 : c1.size = cs.size := by
    have := congrArg List.length hs1
    simp at this
    omega
  obtain ⟨c2, r1, r2, r3, r4, _⟩ := zW b news (A.length + O1.length) _ c1 T fz p1 (by omega)
  have hs2 : c2.toList = (A ++ O1) ++ news ++ (O2 ++ R) := by
    rw [r2]
    refine putN_at (b := (O2 ++ g).take news.length) _ (by rw [hs1]; simp [List.append_assoc]) (by simp) (by simp; omega)
  obtain ⟨d1, u1, u2, u3, u4, _⟩ := zW b news (A.length + (O1.length + O2.length)) w cs T fz hb (by omega)
  have ht1 : d1.toList = (A ++ O1 ++ O2) ++ news ++ R := by
    rw [u2]
    exact putN_at (b := g) _ (by rw [hl]; simp [List.append_assoc]) (by simp) hg.symm
  have hm1 : d1.size = cs.size := by
    have := congrArg List.length ht1
    simp at this
    omega
  obtain ⟨d2, y1, y2, y3, y4, _⟩ := zW b (news ++ O2) (A.length + O1.length) _ d1 T fz u1 (by simp; omega)
  have ht2 : d2.toList = (A ++ O1) ++ (news ++ O2) ++ R := by
    rw [y2]
    exact putN_at (b := O2 ++ news) _ (by rw [ht1]; simp [List.append_assoc]) (by simp) (by simp; omega)
  refine Array.ext_getElem? fun r => ?_
  by_cases e : r = b
  · subst e
    rw [r1, y1]
    congr 1
    exact cells_ext (by rw [hs2, ht2]; simp [List.append_assoc])
  · rw [r3 r e, p3 r e, y3 r e, u3 r e]
    rfl
theorem heap_alloc {w : World} {o : Obj} : (w.alloc o).heap = w.heap.push o := rfl
theorem heap_grow {A O2 V : List Value} {Z1 Z2 : Array Value} {T : TypeId} (hz : Z1.size = V.length + O2.length) :
    ((((w.alloc (.cells (A.toArray ++ Z1 ++ Z2) T)).drew.setCells w.heap.size A.length V).drew).setCells w.heap.size (A.length + V.length) O2).heap =
      ((w.drew.alloc (.cells ((A ++ O2 ++ V).toArray ++ Z2) T)).setCells w.heap.size A.length (V ++ O2)).heap := by
  have hb : (w.alloc (.cells (A.toArray ++ Z1 ++ Z2) T)).drew.heap[w.heap.size]? = some (.cells (A.toArray ++ Z1 ++ Z2) T (0, 0)) := by
    show (w.heap.push _)[w.heap.size]? = _
    simp
  have hb2 : (w.drew.alloc (.cells ((A ++ O2 ++ V).toArray ++ Z2) T)).heap[w.heap.size]? = some (.cells ((A ++ O2 ++ V).toArray ++ Z2) T (0, 0)) := by
    show (w.heap.push _)[w.heap.size]? = _
    simp
  obtain ⟨c1, p1, p2, p3, p4, _⟩ := zW w.heap.size V A.length (w.alloc (.cells (A.toArray ++ Z1 ++ Z2) T)).drew _ T (0, 0) hb (by simp; omega)
  have hs1 : c1.toList = A ++ V ++ (Z1.toList.drop V.length ++ Z2.toList) := by
    rw [p2]
    refine putN_at (b := Z1.toList.take V.length) _ ?_ rfl (by simp; omega)
    simp only [Array.toList_append, List.append_assoc]
    congr 1
    rw [← List.append_assoc, List.take_append_drop]
  have hl1 : c1.size = A.length + V.length + O2.length + Z2.size := by
    have := congrArg List.length hs1
    simp at this
    omega
  obtain ⟨c2, r1, r2, r3, r4, _⟩ := zW w.heap.size O2 (A.length + V.length) ((w.alloc (.cells (A.toArray ++ Z1 ++ Z2) T)).drew.setCells w.heap.size A.length V).drew c1 T (0, 0) p1 (by omega)
  have hs2 : c2.toList = (A ++ V) ++ O2 ++ Z2.toList := by
    rw [r2]
    exact putN_at (b := Z1.toList.drop V.length) _ (by rw [hs1]; simp [List.append_assoc]) (by simp) (by simp; omega)
  obtain ⟨d1, u1, u2, u3, u4, _⟩ := zW w.heap.size (V ++ O2) A.length (w.drew.alloc (.cells ((A ++ O2 ++ V).toArray ++ Z2) T)) _ T (0, 0) hb2 (by simp; omega)
  have ht1 : d1.toList = A ++ (V ++ O2) ++ Z2.toList := by
    rw [u2]
    exact putN_at (b := O2 ++ V) _ (by simp [List.append_assoc]) rfl (by simp; omega)
  refine Array.ext_getElem? fun r => ?_
  by_cases e : r = w.heap.size
  · subst e
    rw [r1, u1]
    congr 1
    exact cells_ext (by rw [hs2, ht1]; simp [List.append_assoc])
  · rw [r3 r e, u3 r e]
    show ((w.alloc (.cells (A.toArray ++ Z1 ++ Z2) T)).drew.setCells w.heap.size A.length V).heap[r]? = _
    rw [p3 r e]
    show (w.heap.push _)[r]? = (w.heap.push _)[r]?
    rw [Array.getElem?_push, Array.getElem?_push, if_neg e, if_neg e]
theorem zeroCells_size (c : Array Value) (k : Nat) : (Builtin.zeroCells c k).size = k * c.size := by simp [Builtin.zeroCells]
theorem insertG_next {args : List Value} {v : Value} (hr : insertG sz by_ args h = some (v, h')) : h.next ≤ h'.next := by
  unfold insertG at hr
  split at hr
  · split at hr
    · cases hr
    · split at hr
      · cases hr
      · split at hr
        · exact zAA hr
        · split at hr
          · cases hr
          · split at hr
            · unfold insertAt at hr
              split at hr
              · rename_i h1 ha
                split at hr
                · rename_i h2 hs
                  cases hr
                  rw [store_next hs]
                  exact zAA ha
                · cases hr
              · cases hr
            · cases hr
  · cases hr
theorem zAH (b : Nat) : ∀ (vs : List Value) (o : Nat) (w : World), (w.setCells b o vs).os = w.os ∧ (w.setCells b o vs).tape = w.tape ∧ (w.setCells b o vs).output = w.output
  | [], _, _ => ⟨rfl, rfl, rfl⟩
  | v :: vs, o, w => by
    have := zAH b vs (o + 1) (w.setCell ⟨b, o, none⟩ v)
    exact this
theorem apartX_some {a va : Addr} (ha : apartX h a va = true) : ∃ c d f, h.okCells a.block = some c ∧ h.okCells va.block = some d ∧ c.fam ≠ d.fam ∧ c.ro = false ∧ d.ro = false ∧ h.fams.get d.fam = some f ∧ f.since = 0 := by
  unfold apartX at ha
  split at ha
  · rename_i c d hc hd
    simp only [Bool.and_eq_true, Bool.not_eq_true'] at ha
    obtain ⟨⟨⟨h1, h2⟩, h3⟩, h4⟩ := ha
    split at h4
    · rename_i f hf
      refine ⟨c, d, f, hc, hd, fun e => ?_, h2, h3, hf, by simpa using h4⟩
      rw [e] at h1
      simp at h1
    · cases h4
  · cases ha
theorem oneC_lrel {l l' : List Value} (hl : LRel ρ l l') (ho : l.all oneC = true) : ∀ u ∈ l', u.oneCell' = true := by
  intro u hu
  rw [oneC_eq]
  obtain ⟨j, hj, rfl⟩ := List.getElem_of_mem hu
  have hj' : j < l.length := by rw [hl.length]; exact hj
  rw [← oneC_rel (hl.get j hj' hj)]
  exact List.all_eq_true.1 ho _ (by simp)
set_option maxHeartbeats 1000000 in
theorem insertG_ok (I : InsFn P f st el sz by_ z) {args : List Value} {v : Value} (hr : insertG sz by_ args h = some (v, h')) : CallRel P f args h v h' := by
  have hnx := insertG_next hr
  intro base ρ w args' hrel wf hpre hargs
  unfold insertG at hr
  split at hr
  case h_2 => cases hr
  rename_i bs n cap i va m vc
  split at hr
  · cases hr
  rename_i hcond
  simp only [not_or] at hcond
  obtain ⟨hm0, hi0, hin⟩ := hcond
  split at hr
  · cases hr
  rename_i news hnews
  cases hargs with
  | @cons _ s' _ rest g1 hs2 =>
  cases hs2 with
  | @cons _ i' _ rest2 g2 hs3 =>
  cases hs3 with
  | @cons _ v' _ rest3 g3 hs4 =>
  cases hs4
  cases g2
  obtain ⟨Lv, av', vc', hLv, rfl, hvle, hvcc, hvaddr, hvex, hvqq⟩ := g3.slice_inv
  have hav := hvaddr (by omega)
  subst hav
  split at hr
  · -- at the end
    rename_i hin'
    subst hin'
    obtain ⟨v1', w1, ρ1, q1, q2, q3, q4, q5⟩ := append_imagined I hrel wf g1 g3 hm0 hnews hr hpre
    cases bs with
    | none =>
      obtain ⟨rfl, rfl, rfl⟩ := g1.nilslice_inv
      refine (I.end_ none 0 0 m vc' _ v1' w w1 (by omega) (Nat.le_refl _) (fun _ => rfl) q1).mono fun e w2 hq => ?_
      obtain ⟨rfl, rfl⟩ := hq
      exact ⟨v1', ρ1, rfl, q2, q3, q4, q5⟩
    | some a =>
      obtain ⟨L, a', c', hL, rfl, hle, hcc, haddr, hex, hqq⟩ := g1.slice_inv
      refine (I.end_ (some a') n c' m vc' _ v1' w w1 (by omega) (by omega) (fun h => by cases h) q1).mono fun e w2 hq => ?_
      obtain ⟨rfl, rfl⟩ := hq
      exact ⟨v1', ρ1, rfl, q2, q3, q4, q5⟩
  · rename_i hne
    split at hr
    · cases hr
    rename_i a
    split at hr
    case isFalse => cases hr
    rename_i hap
    obtain ⟨k, rfl⟩ : ∃ k : Nat, i = (k : Int) := ⟨i.toNat, by omega⟩
    have hkn : k < n := by omega
    rw [Int.toNat_natCast] at hr
    obtain ⟨c, d, f0, hc, hd, hfam, hcro, hdro, hf0, hf00⟩ := apartX_some hap
    unfold insertAt at hr
    split at hr
    case h_2 => cases hr
    rename_i olds b1 n' cap' h1 holds happ
    split at hr
    case h_2 => cases hr
    rename_i h2 hst
    simp only [Option.some.injEq, Prod.mk.injEq] at hr
    obtain ⟨rfl, rfl⟩ := hr
    obtain ⟨L, a', c', hL, rfl, hle, hcc, haddr, hex, hqq⟩ := g1.slice_inv
    have ha' := haddr (by omega)
    subst ha'
    have hnext1 := zAA happ
    have hnext2 := store_next hst
    obtain ⟨v1', w1, ρ1, q1, q2, q3, q4, q5⟩ := append_imagined I hrel wf g1 g3 hm0 hnews happ (fun A h1 h2 => hpre A h1 (by omega))
    have hLb : L.b ≠ Lv.b := fun e => by
      by_cases eb : a.block = va.block
      · rw [eb, hd] at hc; cases hc; exact hfam rfl
      · exact hfam (hrel.alias a.block va.block c d L Lv eb hc hd hL hLv e).1
    obtain ⟨cs, T, fz, hheap, hsz, hbd, hlr, hw0⟩ := hrel.cells a.block c L hc hL
    obtain ⟨hbase, hfz⟩ := hw0 hcro
    obtain ⟨ds, T2, fz2, hheap2, hsz2, hbd2, hlr2, hw2⟩ := hrel.cells va.block d Lv hd hLv
    obtain ⟨hbase2, hfz2⟩ := hw2 hdro
    have hmark := hrel.mark va.block d f0 Lv hd hf0 hf00 hdro hLv ds T2 fz2 hheap2
    obtain ⟨c0, hc0, hab, holds'⟩ := Heap.loadN_some holds
    rw [hc] at hc0; cases hc0
    obtain ⟨d0, hd0, hdb, hnews'⟩ := Heap.loadN_some hnews
    rw [hd] at hd0; cases hd0
    obtain ⟨i0, hi0', hz0, hzs, hzb⟩ := Go.info_parts I.info
    obtain ⟨olds2, ho2⟩ : ∃ l, l = (cs.toList.drop (L.o + a.off)).take (n * sz) := ⟨_, rfl⟩
    obtain ⟨news2, hn2⟩ : ∃ l, l = (ds.toList.drop (Lv.o + va.off)).take (m * sz) := ⟨_, rfl⟩
    have hol : LRel ρ olds olds2 := by
      have := (hlr.drop a.off).take (n * sz)
      rw [List.drop_take, List.drop_drop, List.take_take, Nat.min_eq_left (by omega)] at this
      rw [holds', ho2]; exact this
    have hnl : LRel ρ news news2 := by
      have := (hlr2.drop va.off).take (m * sz)
      rw [List.drop_take, List.drop_drop, List.take_take, Nat.min_eq_left (by omega)] at this
      rw [hnews', hn2]; exact this
    have hol2 : olds2.length = n * sz := by rw [ho2]; simp; omega
    have hnl2 : news2.length = m * sz := by rw [hn2]; simp; omega
    have hks : k * sz + (n - k) * sz = n * sz := by rw [← Nat.add_mul]; congr 1; omega
    have hsz0 := I.sz0
    have hms : 0 < m * sz := Nat.mul_pos (by omega) (by omega)
    have hcell1 : ∀ j v, olds2[j]? = some v → w.cell? ⟨L.b, L.o + a.off + j, none⟩ = some v := fun j v hj => by
      rw [ho2, List.getElem?_take] at hj
      split at hj
      · rw [List.getElem?_drop] at hj
        simp only [World.cell?, hheap]
        simpa using hj
      · cases hj
    have hcell2 : ∀ j v, news2[j]? = some v → w.cell? ⟨Lv.b, Lv.o + va.off + j, none⟩ = some v := fun j v hj => by
      rw [hn2, List.getElem?_take] at hj
      split at hj
      · rw [List.getElem?_drop] at hj
        simp only [World.cell?, hheap2]
        simpa using hj
      · cases hj
    obtain ⟨c1, f1, hc1, hro1, hlen1, hone1, hf1, _⟩ := store_some hst
    simp only [List.all_append, Bool.and_eq_true] at hone1
    have h1n : ∀ u ∈ news2, u.oneCell' = true := oneC_lrel hnl hone1.1
    have h1o : ∀ u ∈ olds2.drop (k * sz), u.oneCell' = true := oneC_lrel (hol.drop (k * sz)) hone1.2
    obtain ⟨L1, a1', c1', hL1, rfl, hle1, hcc1, haddr1, hex1, hqq1⟩ := q5.slice_inv
    have hlr3 : LRel ρ1 (news ++ olds.drop (k * sz)) (news2 ++ olds2.drop (k * sz)) := LRel.mono q4.mono (hnl.append (hol.drop (k * sz)))
    obtain ⟨s1, s2, s3, s4⟩ := store_stepW P q2 q3 (a := ⟨b1.block, b1.off + k * sz, none⟩) hL1 hst hlr3
    have hx2 := Ext.trans q3 (fun A h1 h2 => hpre A h1 (by omega)) q4 s4
    have hfrz : w.frozen? ⟨Lv.b, Lv.o + va.off, none⟩ = false := by
      simp only [World.frozen?, hheap2]
      have := hfz2 (Lv.o + va.off) (by omega)
      simp only [Bool.and_eq_false_iff, decide_eq_false_iff_not]
      omega
    have hfrz2 : w.frozen? ⟨Lv.b, ds.size, none⟩ = false := by
      simp only [World.frozen?, hheap2]
      simp only [Bool.and_eq_false_iff, decide_eq_false_iff_not]
      omega
    have hbytes : (n + m) * by_ ≤ 140737488355328 := by
      unfold Heap.append at happ
      simp only [if_neg hm0] at happ
      split at happ
      · cases happ
      · rename_i hb
        simp only [not_or] at hb
        unfold roomX at hb
        omega
    have hby0 := I.by0
    have hsum : n + m ≤ 140737488355328 := Nat.le_trans (Nat.le_mul_of_pos_right _ (by omega)) hbytes
    by_cases hroom : n + m ≤ c'
    · -- in place
      have hspace : L.o + a.off + (n + m) * sz ≤ cs.size := by
        by_cases hcap : n + m ≤ cap
        · have : ∃ h3, h.store ⟨a.block, a.off + n * sz, none⟩ news = some h3 := by
            unfold Heap.append at happ
            simp only [if_neg hm0] at happ
            split at happ
            · cases happ
            · simp only [hc, if_pos hcap] at happ
              split at happ
              · rename_i h3 e; exact ⟨h3, e⟩
              · cases happ
          obtain ⟨h3, e3⟩ := this
          obtain ⟨c4, _, hc4, _, hl4, _⟩ := store_some e3
          simp only at hc4 hl4
          rw [hc] at hc4; cases hc4
          have : news.length = m * sz := by rw [hnl.length, hnl2]
          rw [Nat.add_mul]; omega
        · cases hsp : a.spot with
          | none => have := hex hsp; omega
          | some q =>
            have : q = sz := by
              unfold Heap.append at happ
              simp only [if_neg hm0] at happ
              split at happ
              · cases happ
              · simp only [hc, if_neg hcap, hsp] at happ
                split at happ
                · cases happ
                · split at happ
                  · cases happ
                  · rename_i hq; simp only [not_or] at hq; omega
            subst this
            have := hqq _ hsp
            have h5 : (n + m) * q ≤ c' * q := Nat.mul_le_mul_right _ hroom
            omega
      have hsplit : cs.toList = cs.toList.take (L.o + a.off) ++ (olds2.take (k * sz) ++ olds2.drop (k * sz)) ++ (cs.toList.drop (L.o + a.off + n * sz)).take (m * sz) ++ cs.toList.drop (L.o + a.off + (n + m) * sz) := by
        rw [List.take_append_drop, ho2, Nat.add_mul, ← Nat.add_assoc, ← List.drop_drop (i := m * sz), List.append_assoc, List.take_append_drop, ← List.drop_drop (i := n * sz), List.append_assoc, List.take_append_drop, List.take_append_drop]
      have hlA : (cs.toList.take (L.o + a.off)).length = L.o + a.off := by simp; omega
      have hl1 : (olds2.take (k * sz)).length = k * sz := by simp; omega
      have hl2 : (olds2.drop (k * sz)).length = n * sz - k * sz := by simp [hol2]
      have hg : ((cs.toList.drop (L.o + a.off + n * sz)).take (m * sz)).length = news2.length := by rw [Nat.add_mul] at hspace; simp [hnl2]; omega
      have hheq := heap_shift hheap hsplit hg
      rw [hlA, hl1, hl2, hnl2] at hheq
      have hcl : ∀ j, j < cs.size → (w.cell? ⟨L.b, j, none⟩).isSome = true := fun j hj => by
        simp only [World.cell?, hheap]
        rw [Array.getElem?_eq_getElem hj]; rfl
      have hfr : ∀ j, j < cs.size → w.frozen? ⟨L.b, j, none⟩ = false := fun j hj => by
        simp only [World.frozen?, hheap]
        have := hfz j (by omega)
        simp only [Bool.and_eq_false_iff, decide_eq_false_iff_not]
        omega
      have hmul : (n + m) * sz = n * sz + m * sz := Nat.add_mul _ _ _
      have hst1 := run_storeCells_cells (P := P) L.b (L.o + a.off + n * sz) news2 0 w (fun j hj => hcl _ (by omega)) (fun j hj => hfr _ (by omega)) h1n
      have hsrc : Src P i0.size (.slice (some ⟨Lv.b, Lv.o + va.off, none⟩) m vc') m news2 w := fun w3 hw3 => ⟨rfl, by
        rw [hzs]
        refine run_firstCells_some (P := P) w3 sz m _ m vc' news2 hnl2 fun j u hj => ?_
        rw [zV]
        have := hcell2 j u hj
        simpa [World.cell?, hw3] using this⟩
      have hfit := z8 (ty := st) (b := some ⟨L.b, L.o + a.off, none⟩) (len := n) (cap := c') I.und (.inl ⟨el, I.und⟩) hi0' hsrc hroom
      rw [q1, hzs] at hfit
      simp only [zV] at hfit
      rw [Nat.add_zero] at hst1
      rw [hst1] at hfit
      simp only [Result.andThen_ok, Result.ok.injEq, Value.slice.injEq, Option.some.injEq] at hfit
      obtain ⟨⟨rfl, rfl, rfl⟩, rfl⟩ := hfit
      have he1 := haddr1 (by omega)
      simp only [Addr.mk.injEq, and_true] at he1
      obtain ⟨he2, he3⟩ := he1
      refine (I.shift L.b (L.o + a.off) n c1' k Lv.b (Lv.o + va.off) m vc' olds2 news2 w hkn (by omega) hroom (by omega) (Ne.symm hLb) hol2 hnl2 hcell1 (fun j hj => hcl _ (by omega)) (fun j hj => hfr _ (by omega)) hcell2 h1o h1n T2 T ds.size cs.size (by simp [World.shape?, hheap2]) (by simp [World.shape?, hheap]) (by omega) hfrz hfrz2).mono fun e w3 hq => ?_
      obtain ⟨rfl, rfl⟩ := hq
      have hE : ((w.drew.setCells L.b (L.o + a.off + (k + m) * sz) (olds2.drop (k * sz))).setCells L.b (L.o + a.off + k * sz) news2).heap = ((w.setCells L.b (L.o + a.off + n * sz) news2).setCells L1.b (L1.o + (b1.off + k * sz) + 0) (news2 ++ olds2.drop (k * sz))).heap := by
        rw [show k * sz + (n * sz - k * sz) = n * sz by omega] at hheq
        rw [← he2, Nat.add_mul, show L1.o + (b1.off + k * sz) + 0 = L.o + a.off + k * sz by omega]
        exact hheq
      obtain ⟨x1, z1, z2, z3, z4, z5, z6, z7⟩ := zW L.b (olds2.drop (k * sz)) (L.o + a.off + (k + m) * sz) w.drew cs T fz hheap (by rw [hl2, Nat.add_mul]; omega)
      have hx1 : x1.size = cs.size := by
        have : x1.toList.length = cs.toList.length := by rw [z2, zi (by rw [hl2, Nat.add_mul]; simp; omega)]
        simpa using this
      obtain ⟨x2, y1, y2, y3, y4, y5, y6, y7⟩ := zW L.b news2 (L.o + a.off + k * sz) _ x1 T fz z1 (by omega)
      refine ⟨_, ρ1, rfl, s2.swap hE, s3, hx2.swap hE ?_ ?_ ?_, q5⟩
      · rw [y5, z5]; rfl
      · rw [y6, z6]; rfl
      · rw [y7, z7]; rfl
    · -- into a new row
      have hfitb : Builtin.nextslicecap (n + m) c' * i0.bytes ≤ 281474976710656 := by rw [hzb]; exact growslice_fits (by omega) hbytes
      have hold : (Builtin.firstCells i0.size n (.slice (some ⟨L.b, L.o + a.off, none⟩) n c')).run P w.drew = .ok olds2.toArray w.drew := by
        rw [hzs]
        refine run_firstCells_some (P := P) w.drew sz n _ n c' olds2 hol2 fun j u hj => ?_
        rw [zV]
        exact hcell1 j u hj
      have hsrc : Go.Src P i0.size st (.slice (some ⟨Lv.b, Lv.o + va.off, none⟩) m vc') m news2 w := by
        rw [hzs]
        exact Go.Src.ofSlice w I.und _ m vc' news2 hnl2 (fun j u hj => by rw [zV]; exact hcell2 j u hj) h1n
      have hgr := run_append_grow_src (P := P) w st st st el i0 z I.und hi0' hz0 (some ⟨L.b, L.o + a.off, none⟩) n c' olds2 hold _ m news2 hsrc (by omega) (by omega) hfitb
      rw [q1] at hgr
      simp only [Result.ok.injEq, Value.slice.injEq, Option.some.injEq] at hgr
      obtain ⟨⟨rfl, rfl, rfl⟩, rfl⟩ := hgr
      have he1 := haddr1 (by omega)
      simp only [Addr.mk.injEq, and_true] at he1
      obtain ⟨he2, he3⟩ := he1
      have hcat : olds2.take (k * sz) ++ olds2.drop (k * sz) = olds2 := List.take_append_drop _ _
      have hl1 : (olds2.take (k * sz)).length = k * sz := by simp; omega
      have hl2 : (olds2.drop (k * sz)).length = n * sz - k * sz := by simp [hol2]
      have hz1 : (Builtin.zeroCells z.cells (n + m - k)).size = news2.length + (olds2.drop (k * sz)).length := by
        have hzl : z.cells.size = sz := by have := I.zlen; simpa using this
        rw [zeroCells_size, hzl, hl2, hnl2, show n + m - k = (n - k) + m by omega, Nat.add_mul]
        omega
      have hheq := heap_grow (w := w) (T := el) (Z2 := Builtin.zeroCells z.cells (grownCap w (n + m) c' el - (n + m))) hz1 (A := olds2.take (k * sz))
      rw [hcat, hl1, hnl2] at hheq
      refine (I.grow L.b (L.o + a.off) n c' k Lv.b (Lv.o + va.off) m vc' olds2 news2 w hkn (by omega) (by omega) (by omega) hbytes hol2 hnl2 hcell1 hcell2 h1o h1n).mono fun e w3 hq => ?_
      obtain ⟨rfl, rfl⟩ := hq
      have hE : ((((w.alloc (.cells ((olds2.take (k * sz)).toArray ++ Builtin.zeroCells z.cells (n + m - k) ++ Builtin.zeroCells z.cells (grownCap w (n + m) c' el - (n + m))) el)).drew.setCells w.heap.size (k * sz) news2).drew).setCells w.heap.size ((k + m) * sz) (olds2.drop (k * sz))).heap =
          ((w.drew.alloc (.cells ((olds2 ++ news2).toArray ++ Builtin.zeroCells z.cells (grownCap w (n + m) c' el - (n + m))) el)).setCells L1.b (L1.o + (b1.off + k * sz) + 0) (news2 ++ olds2.drop (k * sz))).heap := by
        rw [← he2, Nat.add_mul, show L1.o + (b1.off + k * sz) + 0 = k * sz by omega]
        exact hheq
      have r1 := zAH w.heap.size (olds2.drop (k * sz)) ((k + m) * sz) ((w.alloc (.cells ((olds2.take (k * sz)).toArray ++ Builtin.zeroCells z.cells (n + m - k) ++ Builtin.zeroCells z.cells (grownCap w (n + m) c' el - (n + m))) el)).drew.setCells w.heap.size (k * sz) news2).drew
      have r2 := zAH w.heap.size news2 (k * sz) (w.alloc (.cells ((olds2.take (k * sz)).toArray ++ Builtin.zeroCells z.cells (n + m - k) ++ Builtin.zeroCells z.cells (grownCap w (n + m) c' el - (n + m))) el)).drew
      refine ⟨_, ρ1, rfl, s2.swap hE, s3, hx2.swap hE ?_ ?_ ?_, q5⟩
      · rw [r1.1]; exact r2.1
      · rw [r1.2.1]; exact r2.2.1
      · rw [r1.2.2]; exact r2.2.2
end
end Go.X
end
section
namespace Go.X
set_option linter.unusedVariables false
structure Keeps (W : Nat → Prop) (h h' : Heap) : Prop where
  next : h.next ≤ h'.next
  blks : ∀ A, A < h.next → ¬ W A → h'.blks.get A = h.blks.get A
  fams : ∀ A, A < h.next → ¬ W A → h'.fams.get A = h.fams.get A
def none1 : Nat → Prop := fun _ => False
section
variable {W V : Nat → Prop} {h h0 h1 h2 : Heap} {A : Nat} {l : List Value}
theorem Keeps.refl : Keeps W h h := ⟨Nat.le_refl _, fun _ _ _ => rfl, fun _ _ _ => rfl⟩
theorem Keeps.mono (a : Keeps W h h1) (hW : ∀ A, A < h.next → W A → V A) : Keeps V h h1 := ⟨a.next, fun A hA hn => a.blks A hA fun w => hn (hW A hA w), fun A hA hn => a.fams A hA fun w => hn (hW A hA w)⟩
theorem Keeps.trans (a : Keeps W h h1) (b : Keeps V h1 h2) (hV : ∀ A, A < h.next → V A → W A) : Keeps W h h2 :=
  ⟨Nat.le_trans a.next b.next, fun A hA hn => (b.blks A (Nat.lt_of_lt_of_le hA a.next) fun v => hn (hV A hA v)).trans (a.blks A hA hn),
    fun A hA hn => (b.fams A (Nat.lt_of_lt_of_le hA a.next) fun v => hn (hV A hA v)).trans (a.fams A hA hn)⟩
theorem Keeps.grows (a : Keeps W h0 h1) (hW : ∀ A, A < h0.next → ¬ W A) : Grows h0 h1 := ⟨a.next, fun A hA => a.blks A hA (hW A hA), fun A hA => a.fams A hA (hW A hA)⟩
theorem Grows.keeps (a : Grows h0 h1) : Keeps W h0 h1 := ⟨a.next, fun A hA _ => a.blks A hA, fun A hA _ => a.fams A hA⟩
theorem Grows.then (a : Grows h0 h1) (b : Keeps W h1 h2) (hW : ∀ A, A < h0.next → ¬ W A) : Grows h0 h2 := Keeps.grows (Keeps.trans (W := W) a.keeps b (fun _ _ w => w)) hW
theorem Keeps.wr : Keeps (fun B => B = A) h (h.wr A l) := ⟨Nat.le_refl _, fun B _ hn => PT.get_set_ne _ _ hn, fun B _ hn => PT.get_set_ne _ _ hn⟩
theorem Keeps.new : Keeps W h (h.new l) := Grows.new.keeps
theorem Keeps.newB : Keeps W h (h.newB l) := Grows.newB.keeps
theorem Var.keep {B : Nat} (hv : Var h B l) (hk : Keeps W h h1) (hB : ¬ W B) : Var h1 B l := by
  obtain ⟨h0, h2, s, n, h3⟩ := hv
  exact ⟨Nat.lt_of_lt_of_le h0 hk.next, by rw [hk.blks B h0 hB]; exact h2, s, n, by rw [hk.fams B h0 hB]; exact h3⟩
theorem Var.grow {B : Nat} (hv : Var h B l) (hk : Grows h h1) : Var h1 B l := hv.keep (W := none1) hk.keeps id
def Own (h : Heap) (S : Nat → Prop) (esz : Nat) (v : Value) (n : Nat) (l : List Value) : Prop :=
  l.length = n * esz ∧ ((v = .slice none 0 0 ∧ n = 0) ∨
    ∃ B off sp cap c f, v = .slice (some ⟨B, off, sp⟩) n cap ∧ S B ∧ S c.fam ∧ B < h.next ∧ c.fam < h.next ∧ h.blks.get B = some (.cells c) ∧ h.fams.get c.fam = some f ∧ (B = f.who ∨ f.since ≤ B) ∧ f.since ≤ h.next ∧
      c.ro = false ∧ n ≤ cap ∧ off + cap * esz ≤ c.cells.length ∧ (c.cells.drop off).take (n * esz) = l ∧ (sp = none ∨ sp = some esz))
variable {S T : Nat → Prop} {esz n m : Nat} {v : Value} {new : List Value}
theorem Own.nil : Own h S esz (.slice none 0 0) 0 [] := ⟨by simp, .inl ⟨rfl, rfl⟩⟩
theorem Own.mono (ho : Own h S esz v n l) (hS : ∀ A, S A → T A) : Own h T esz v n l := by
  obtain ⟨h1, h2⟩ := ho
  refine ⟨h1, ?_⟩
  rcases h2 with h2 | ⟨B, off, sp, cap, c, f, a1, a2, a3, a4⟩
  · exact .inl h2
  · exact .inr ⟨B, off, sp, cap, c, f, a1, hS _ a2, hS _ a3, a4⟩
theorem Own.keep (ho : Own h S esz v n l) (hk : Keeps W h h1) (hW : ∀ A, S A → ¬ W A) : Own h1 S esz v n l := by
  obtain ⟨h1', h2⟩ := ho
  refine ⟨h1', ?_⟩
  rcases h2 with h2 | ⟨B, off, sp, cap, c, f, a1, a2, a3, a4, a5, a6, a7, a8, a14, a9⟩
  · exact .inl h2
  · exact .inr ⟨B, off, sp, cap, c, f, a1, a2, a3, Nat.lt_of_lt_of_le a4 hk.next, Nat.lt_of_lt_of_le a5 hk.next, by rw [hk.blks B a4 (hW _ a2)]; exact a6, by rw [hk.fams _ a5 (hW _ a3)]; exact a7, a8, Nat.le_trans a14 hk.next, a9⟩
theorem Own.grow (ho : Own h S esz v n l) (hk : Grows h h1) : Own h1 S esz v n l := ho.keep (W := none1) hk.keeps (fun _ _ => id)
theorem Own.nil_of (ho : Own h S esz v 0 l) : l = [] := by
  have := ho.1; simp at this; exact this
theorem Own.shape (ho : Own h S esz v n l) : ∃ a cap, v = .slice a n cap ∧ (n ≠ 0 → ∃ B off sp, a = some ⟨B, off, sp⟩ ∧ h.loadN ⟨B, off, sp⟩ (n * esz) = some l ∧ ∀ j, j < n * esz → h.load ⟨B, off + j, none⟩ = l[j]?) := by
  obtain ⟨h1, ⟨rfl, rfl⟩ | ⟨B, off, sp, cap, c, f, rfl, a2, a3, a4, a5, a6, a7, a8, a14, a9, a10, a11, a12, a13⟩⟩ := ho
  · exact ⟨none, 0, rfl, fun h => absurd rfl h⟩
  · have hok : h.okCells B = some c := okCells_iff.2 ⟨a6, f, a7, a8⟩
    have hle : n * esz ≤ cap * esz := Nat.mul_le_mul_right _ a10
    refine ⟨some ⟨B, off, sp⟩, cap, rfl, fun _ => ⟨B, off, sp, rfl, ?_, fun j hj => ?_⟩⟩
    · simp only [Heap.loadN, hok, takeN]
      rw [Nat.ble_eq_true_of_le (by omega)]
      simp [a12]
    · simp only [Heap.load, hok]
      rw [← a12, List.getElem?_take, if_pos hj, List.getElem?_drop]
theorem Own.append (ho : Own h S esz v n l) {bytes : Nat} (hm : new.length = m * esz) (hone : new.all oneC = true) (he : esz ≠ 0) (hb : bytes ≠ 0) (hroom : (n + m) * bytes ≤ roomX) :
    ∃ v' h', h.append esz bytes v m new = some (v', h') ∧ Own h' (fun A => S A ∨ h.next ≤ A) esz v' (n + m) (l ++ new) ∧ Keeps S h h' := by
  obtain ⟨h1, hv⟩ := ho
  by_cases h0 : m = 0
  · subst h0
    have : new = [] := by simpa using hm
    subst this
    refine ⟨v, h, ?_, ?_, Keeps.refl⟩
    · rcases hv with ⟨rfl, rfl⟩ | ⟨B, off, sp, cap, c, f, rfl, _⟩ <;> simp [Heap.append]
    · refine Own.mono ⟨by simpa using h1, ?_⟩ (fun A hA => Or.inl hA)
      simpa using hv
  · have hcond : ¬ (esz = 0 ∨ bytes = 0 ∨ roomX < (n + m) * bytes ∨ new.length ≠ m * esz ∨ new.all oneC = false) := by
      rw [hone]; simp [he, hb, hm]; omega
    rcases hv with ⟨rfl, rfl⟩ | ⟨B, off, sp, cap, c, f, rfl, a2, a3, a4, a5, a6, a7, a8, a14, a9, a10, a11, a12, a13⟩
    · obtain rfl : l = [] := by simpa using h1
      refine ⟨.slice (some ⟨h.next, 0, some esz⟩) (0 + m) (0 + m), h.new new, ?_, ?_, Keeps.new (l := new)⟩
      · unfold Heap.append
        simp only [if_neg h0]
        rw [if_neg (by simpa using hcond)]
      · refine ⟨by simpa using hm, .inr ⟨h.next, 0, some esz, 0 + m, ⟨new, h.next, 0, false⟩, _, rfl, Or.inr (Nat.le_refl _), Or.inr (Nat.le_refl _), Nat.lt_succ_self _, Nat.lt_succ_self _, PT.get_set_eq _ _ _, PT.get_set_eq _ _ _, .inl rfl, Nat.zero_le _, rfl, Nat.le_refl _, ?_, ?_, .inr rfl⟩⟩
        · simp [hm]
        · simp [← hm]
    · have hok : h.okCells B = some c := okCells_iff.2 ⟨a6, f, a7, a8⟩
      have hle : n * esz ≤ cap * esz := Nat.mul_le_mul_right _ a10
      unfold Heap.append
      simp only [if_neg h0]
      rw [if_neg hcond]
      simp only [hok]
      by_cases hc : n + m ≤ cap
      · -- in place
        have hle2 : (n + m) * esz ≤ cap * esz := Nat.mul_le_mul_right _ hc
        rw [Nat.add_mul] at hle2
        rw [if_pos hc]
        have hst : h.store ⟨B, off + n * esz, none⟩ new = some { h with blks := h.blks.set B (.cells { c with cells := putN c.cells (off + n * esz) new }), fams := h.fams.set c.fam { f with since := h.next, who := B } } := by
          simp only [Heap.store, hok]
          rw [Nat.ble_eq_true_of_le (by omega), hone]
          simp [a9, a7]
        rw [hst]
        refine ⟨_, _, rfl, ⟨by simp [h1, hm, Nat.add_mul], .inr ⟨B, off, sp, cap, { c with cells := putN c.cells (off + n * esz) new }, { f with since := h.next, who := B }, rfl, .inl a2, .inl a3, a4, a5, PT.get_set_eq _ _ _, PT.get_set_eq _ _ _, .inl rfl, Nat.le_refl _, a9, hc, ?_, ?_, a13⟩⟩, ⟨Nat.le_refl _, ?_, ?_⟩⟩
        · simp only [putN, List.length_append, List.length_take, List.length_drop]; omega
        · simp only [putN]
          rw [← a12, List.append_assoc, List.drop_append_of_le_length (by simp; omega), Nat.add_mul, List.drop_take]
          have e : off + n * esz - off = n * esz := by omega
          rw [e]
          have e2 : ((c.cells.drop off).take (n * esz)).length = n * esz := by simp; omega
          rw [List.take_append, e2]
          rw [List.take_of_length_le (by rw [e2]; omega)]
          congr 1
          rw [show n * esz + m * esz - n * esz = m * esz by omega, List.take_append_of_le_length (by omega), List.take_of_length_le (by omega)]
        · intro A _ hn; exact PT.get_set_ne _ _ fun e => hn (e ▸ a2)
        · intro A _ hn; exact PT.get_set_ne _ _ fun e => hn (e ▸ a3)
      · rw [if_neg hc, if_neg (by omega)]
        rcases a13 with rfl | rfl
        · refine ⟨_, _, rfl, ⟨by simp [h1, hm, Nat.add_mul], .inr ⟨h.next, 0, some esz, n + m, ⟨(c.cells.drop off).take (n * esz) ++ new, h.next, 0, false⟩, _, rfl, Or.inr (Nat.le_refl _), Or.inr (Nat.le_refl _), Nat.lt_succ_self _, Nat.lt_succ_self _, PT.get_set_eq _ _ _, PT.get_set_eq _ _ _, .inl rfl, Nat.zero_le _, rfl, Nat.le_refl _, ?_, ?_, .inr rfl⟩⟩, Keeps.new⟩
          · rw [a12]; simp [h1, hm, Nat.add_mul]
          · rw [a12, List.drop_zero, List.take_of_length_le (by simp [h1, hm, Nat.add_mul])]
        · have hro : ¬ ((esz ≠ esz) ∨ c.ro = true) := by simp [a9]
          simp only
          rw [if_neg hro]
          simp only [a7]
          refine ⟨_, _, rfl, ⟨by simp [h1, hm, Nat.add_mul], .inr ⟨h.next, 0, some esz, n + m, ⟨(c.cells.drop off).take (n * esz) ++ new, c.fam, c.delta + off, false⟩, _, rfl, Or.inr (Nat.le_refl _), .inl a3, Nat.lt_succ_self _, Nat.lt_succ_of_lt a5, PT.get_set_eq _ _ _, PT.get_set_eq _ _ _, ?_, ?_, rfl, Nat.le_refl _, ?_, ?_, .inr rfl⟩⟩, ⟨Nat.le_succ _, ?_, ?_⟩⟩
          · split
            · right; exact a14
            · left; rfl
          · split
            · exact Nat.le_succ_of_le a14
            · exact Nat.le_succ _
          · rw [a12]; simp [h1, hm, Nat.add_mul]
          · rw [a12, List.drop_zero, List.take_of_length_le (by simp [h1, hm, Nat.add_mul])]
          · intro A hA _; exact PT.get_set_ne _ _ (by omega)
          · intro A _ hn; exact PT.get_set_ne _ _ fun e => hn (e ▸ a3)
end
end Go.X
namespace Go.X
end Go.X
namespace Go.X
theorem Var.store1 {h : Heap} {A i : Nat} {l : List Value} {v : Value} {sp : Option Nat} (hv : Var h A l) (hi : i < l.length) (ho : oneC v = true) : h.store ⟨A, i, sp⟩ [v] = some (h.wr A (l.set i v)) := by
  rw [hv.store (vs := [v]) (show i + 1 ≤ l.length from hi) (by simp [ho])]
  congr 2
  simp only [putN, List.length_singleton]
  rw [List.set_eq_take_append_cons_drop, if_pos hi]
  simp
end Go.X
namespace Go.X
section
variable {W S T : Nat → Prop} {h h0 h1 h2 : Heap} {A : Nat} {l : List Value} {esz n m : Nat} {v : Value} {new : List Value} {t : Fr}
def slcVV (esz : Nat) (v : Value) (lo hi mx : Option Value) : Option Value := match v with
  | .slice a len cap => match zX len cap lo hi mx with
    | some (l, e, m) => (match a with
      | none => some (.slice none (e - l) (m - l))
      | some a => if a.spot = none ∨ a.spot = some esz then some (.slice (some ⟨a.block, a.off + l * esz, a.spot⟩) (e - l) (m - l)) else none)
    | none => none
  | _ => none
theorem Own.from (ho : Own h S esz v n l) {j : Nat} {k : IntKind} (hj : j ≤ n) : ∃ v', slcVV esz v (some (.int k (j : Int))) none none = some v' ∧ Own h S esz v' (n - j) (l.drop (j * esz)) := by
  obtain ⟨h1, hv⟩ := ho
  have hlen : (l.drop (j * esz)).length = (n - j) * esz := by rw [List.length_drop, h1, Nat.sub_mul]
  have hb : ∀ cap, n ≤ cap → zX n cap (some (.int k (j : Int))) none none = some (j, n, cap) := fun cap hc => by
    simp only [zX, boundV]
    rw [if_pos (by omega)]
    simp
  rcases hv with ⟨rfl, rfl⟩ | ⟨B, off, sp, cap, c, f, rfl, a2, a3, a4, a5, a6, a7, a8, a14, a9, a10, a11, a12, a13⟩
  · obtain rfl : j = 0 := by omega
    refine ⟨.slice none 0 0, ?_, hlen, .inl ⟨rfl, rfl⟩⟩
    simp only [slcVV, hb 0 (Nat.le_refl _)]
  · refine ⟨.slice (some ⟨B, off + j * esz, sp⟩) (n - j) (cap - j), ?_, hlen, .inr ⟨B, off + j * esz, sp, cap - j, c, f, rfl, a2, a3, a4, a5, a6, a7, a8, a14, a9, by omega, ?_, ?_, a13⟩⟩
    · simp only [slcVV, hb cap a10]
      rw [if_pos a13]
    · have : j * esz ≤ cap * esz := Nat.mul_le_mul_right _ (by omega)
      rw [Nat.sub_mul]; omega
    · rw [← a12, List.drop_take, List.drop_drop, Nat.sub_mul]
theorem Own.to (ho : Own h S esz v n l) {j : Nat} {k : IntKind} (hj : j ≤ n) : ∃ v', slcVV esz v none (some (.int k (j : Int))) none = some v' ∧ Own h S esz v' j (l.take (j * esz)) := by
  obtain ⟨h1, hv⟩ := ho
  have hle : j * esz ≤ n * esz := Nat.mul_le_mul_right _ hj
  have hlen : (l.take (j * esz)).length = j * esz := by rw [List.length_take, h1]; omega
  have hb : ∀ cap, n ≤ cap → zX n cap none (some (.int k (j : Int))) none = some (0, j, cap) := fun cap hc => by
    simp only [zX, boundV]
    rw [if_pos (by omega)]
    simp
  rcases hv with ⟨rfl, rfl⟩ | ⟨B, off, sp, cap, c, f, rfl, a2, a3, a4, a5, a6, a7, a8, a14, a9, a10, a11, a12, a13⟩
  · obtain rfl : j = 0 := by omega
    refine ⟨.slice none 0 0, ?_, hlen, .inl ⟨rfl, rfl⟩⟩
    simp only [slcVV, hb 0 (Nat.le_refl _)]
  · refine ⟨.slice (some ⟨B, off, sp⟩) j cap, ?_, hlen, .inr ⟨B, off, sp, cap, c, f, rfl, a2, a3, a4, a5, a6, a7, a8, a14, a9, by omega, a11, ?_, a13⟩⟩
    · simp only [slcVV, hb cap a10]
      rw [if_pos a13]
      simp
    · rw [← a12, List.take_take, Nat.min_eq_left hle]
theorem Var.own (hv : Var h A l) (hf : ∀ s n, h.fams.get A = some ⟨s, A, n⟩ → s ≤ h.next) (hS : S A) (hl : l.length = n * esz) : Own h S esz (.slice (some ⟨A, 0, none⟩) n n) n l := by
  obtain ⟨h1, h2, s, k, h3⟩ := hv
  exact ⟨hl, .inr ⟨A, 0, none, n, ⟨l, A, 0, false⟩, _, rfl, hS, hS, h1, h1, h2, h3, .inl rfl, hf s k h3, rfl, Nat.le_refl _, by simp [hl], by simp [← hl], .inl rfl⟩⟩
end
end Go.X
namespace Go.X
end Go.X
namespace Go.X
theorem Own.cell {h : Heap} {S : Nat → Prop} {esz n : Nat} {v : Value} {l : List Value} (ho : Own h S esz v n l) : zH v = [v] := by
  obtain ⟨a, c, rfl, _⟩ := ho.shape; rfl
theorem Own.one {h : Heap} {S : Nat → Prop} {esz n : Nat} {v : Value} {l : List Value} (ho : Own h S esz v n l) : oneC v = true := by
  obtain ⟨a, c, rfl, _⟩ := ho.shape; rfl
theorem Own.lenV {h : Heap} {S : Nat → Prop} {esz n : Nat} {v : Value} {l : List Value} (ho : Own h S esz v n l) : lenVV v = some (.int .i64 n) := by
  obtain ⟨a, c, rfl, _⟩ := ho.shape; rfl
theorem Own.store {h h1 : Heap} {S : Nat → Prop} {esz n D i : Nat} {v : Value} {l m : List Value} (ho : Own h S esz v n l) (hD : Var h1 D m) (hi : i < m.length) : storeV h1 1 (.pointer (some ⟨D, i, none⟩)) v = some (.tuple #[], h1.wr D (m.set i v)) := by
  rw [storeV_one ho.cell, hD.store1 hi ho.one]; rfl
end Go.X
namespace Go.X
section
variable {h : Heap} {S : Nat → Prop} {n : Nat} {v : Value} {t : Fr}
def cb2sV (h : Heap) : Value → Option Value
  | .slice none _ _ => some (.string (zK []))
  | .slice (some a) len _ => if len = 0 then some (.string (zK [])) else match h.loadN a len with
      | some l => (match bytesOf l with | some bs => some (.string (zK bs)) | none => none)
      | none => none
  | _ => none
theorem bytesOf_cells : ∀ l : List UInt8, bytesOf (zR l) = some l
  | [] => rfl
  | b :: l => by
    have := bytesOf_cells l
    unfold zR at this ⊢
    simp [bytesOf, this]
theorem Own.cb2s {b : List UInt8} (ho : Own h S 1 v n (zR b)) : cb2sV h v = some (.string (zK b)) := by
  obtain ⟨a, cap, rfl, hs⟩ := ho.shape
  by_cases h0 : n = 0
  · subst h0
    have := ho.nil_of
    obtain rfl : b = [] := by cases b with | nil => rfl | cons x b => simp [zR] at this
    cases a <;> simp [cb2sV]
  · obtain ⟨B, off, sp, rfl, h1, _⟩ := hs h0
    simp only [cb2sV]
    rw [if_neg h0]
    rw [Nat.mul_one] at h1
    simp only [h1, bytesOf_cells]
end
end Go.X
namespace Go.X
end Go.X
namespace Go.X
section
variable {S : Nat → Prop} {h : Heap} {esz n : Nat} {v : Value} {l : List Value}
theorem Own.bound (ho : Own h S esz v n l) : Own h (fun A => S A ∧ A < h.next) esz v n l := by
  obtain ⟨h1, h2⟩ := ho
  refine ⟨h1, ?_⟩
  rcases h2 with h2 | ⟨B, off, sp, cap, c, f, a1, a2, a3, a4, a5, a6⟩
  · exact .inl h2
  · exact .inr ⟨B, off, sp, cap, c, f, a1, ⟨a2, a4⟩, ⟨a3, a5⟩, a4, a5, a6⟩
theorem Own.both (ho : Own h S esz v n l) {i j : Nat} {k k' : IntKind} (hi : i ≤ j) (hj : j ≤ n) : ∃ v', slcVV esz v (some (.int k (i : Int))) (some (.int k' (j : Int))) none = some v' ∧ Own h S esz v' (j - i) ((l.drop (i * esz)).take ((j - i) * esz)) := by
  obtain ⟨v1, e1, o1⟩ := ho.from (j := i) (k := k) (by omega)
  obtain ⟨v2, e2, o2⟩ := o1.to (j := j - i) (k := k') (by omega)
  refine ⟨v2, ?_, o2⟩
  obtain ⟨a, cap, rfl, hs⟩ := ho.shape
  have hc : n ≤ cap ∨ (a = none ∧ n = 0 ∧ cap = 0) := by
    rcases ho.2 with ⟨q, rfl⟩ | ⟨B, off, sp, cap', c, f, q, a2, a3, a4, a5, a6, a7, a8, a14, a9, a10, a11⟩
    · cases q; exact .inr ⟨rfl, rfl, rfl⟩
    · cases q; exact .inl a10
  have hn : n ≤ cap := by rcases hc with h | ⟨_, rfl, rfl⟩ <;> omega
  have b1 : zX n cap (some (.int k (i : Int))) none none = some (i, n, cap) := by
    simp only [zX, boundV]; rw [if_pos (by omega)]; simp
  have b2 : zX n cap (some (.int k (i : Int))) (some (.int k' (j : Int))) none = some (i, j, cap) := by
    simp only [zX, boundV]; rw [if_pos (by omega)]; simp only; rw [if_pos (by omega)]; simp
  have b3 : zX (n - i) (cap - i) none (some (.int k' ((j - i : Nat) : Int))) none = some (0, j - i, cap - i) := by
    simp only [zX, boundV]; rw [if_pos (by omega)]; simp
  simp only [slcVV, b1] at e1
  simp only [slcVV, b2]
  cases a with
  | none =>
    cases e1
    simp only [slcVV, b3] at e2
    cases e2; simp
  | some a =>
    dsimp only at e1 ⊢
    by_cases hsp : a.spot = none ∨ a.spot = some esz
    · rw [if_pos hsp] at e1 ⊢
      cases e1
      simp only [slcVV, b3] at e2
      rw [if_pos hsp] at e2
      cases e2; simp
    · rw [if_neg hsp] at e1; cases e1
theorem Own.newB {sp : Option Nat} (hl : l.length = n * esz) (hsp : sp = none ∨ sp = some esz) : Own (h.newB l) (fun A => A = h.next) esz (.slice (some ⟨h.next, 0, sp⟩) n n) n l :=
  ⟨hl, .inr ⟨h.next, 0, sp, n, ⟨l, h.next, 0, false⟩, ⟨h.next + 1, h.next, l.length⟩, rfl, rfl, rfl, Nat.lt_succ_self _, Nat.lt_succ_self _, PT.get_set_eq _ _ _, PT.get_set_eq _ _ _, .inl rfl, Nat.le_refl _, rfl, Nat.le_refl _, by simp [hl], by simp [← hl], hsp⟩⟩
end
end Go.X
namespace Go.X
end Go.X
end
section
namespace Go.X
set_option linter.unusedVariables false
def chkd (full : List XO) : List (Nat × Nat × List Nat) → List (Fr × Heap) → Nat → Prop
  | [], _, _ => True
  | c :: cs, tr, i => (if (c.1 = i ∧ c.2.1 ≤ i) ∨ (c.2.1 = i ∧ c.1 ≤ i) then checkAt full tr.reverse c.1 c.2.1 c.2.2 = true else True) ∧ chkd full cs tr i
def wpd (pr : Prog) (full : List XO) (cs : List (Nat × Nat × List Nat)) : Nat → List (Fr × Heap) → List XO → (Fr → Heap → Prop) → Fr → Heap → Prop
  | i, tr, [], K, t, h => chkd full cs ((t, h) :: tr) i ∧ K t h
  | i, tr, x :: l, K, t, h => chkd full cs ((t, h) :: tr) i ∧ ∃ r, stepW (cfi pr) t h x = some r ∧ wpd pr full cs (i + 1) ((t, h) :: tr) l K (t.put x.dst r.1) r.2
section
variable {pr : Prog} {full : List XO} {cs : List (Nat × Nat × List Nat)} {i : Nat} {tr : List (Fr × Heap)} {K : Fr → Heap → Prop} {t : Fr} {h : Heap}
end
end Go.X
namespace Go.X
end Go.X
end
section
namespace Go.X
set_option linter.unusedVariables false
section
variable {S : Nat → Prop} {h : Heap} {n : Nat} {v : Value} {l : List Value}
end
end Go.X
namespace Go.X
end Go.X
namespace Go.X
end Go.X
namespace Go.X
section
variable {s : List UInt8} {n m : Nat} {k k' : IntKind}
end
end Go.X
namespace Go.X
abbrev E3 (a b : List XO) : Prop := (∀ (pr : Prog) (K : Fr → Heap → Prop) (t : Fr) (h : Heap), wpo pr a K t h = wpo pr b K t h) ∧ (∀ (pr : Prog) (K : Fr → Heap → Prop) (t : Fr) (h : Heap), wps pr a K t h = wps pr b K t h) ∧
  ∀ (pr : Prog) (u : List XO) (c : List (Nat × Nat × List Nat)) (i : Nat) (r : List (Fr × Heap)) (K : Fr → Heap → Prop) (t : Fr) (h : Heap), wpd pr u c i r a K t h = wpd pr u c i r b K t h
theorem E3.rfl {a : List XO} : E3 a a := ⟨fun _ _ _ _ => Eq.refl _, fun _ _ _ _ => Eq.refl _, fun _ _ _ _ _ _ _ _ => Eq.refl _⟩
end Go.X
end
section
namespace Go.X
set_option linter.unusedVariables false
section
variable {S : Nat → Prop} {h g : Heap} {n m sz bytes : Nat} {v : Value} {l lit : List Value}
theorem Own.putAt (ho : Own h S sz v n l) (h0 : n ≠ 0) {k : Nat} {vs : List Value} (hk : k + vs.length ≤ n * sz) (hone : vs.all oneC = true) : ∃ B off sp cap h', v = .slice (some ⟨B, off, sp⟩) n cap ∧ h.store ⟨B, off + k, none⟩ vs = some h' ∧ Own h' S sz v n (putN l k vs) ∧ Keeps S h h' := by
  obtain ⟨h1, hv⟩ := ho
  rcases hv with ⟨rfl, rfl⟩ | ⟨B, off, sp, cap, c, f, rfl, a2, a3, a4, a5, a6, a7, a8, a14, a9, a10, a11, a12, a13⟩
  · exact absurd rfl h0
  · have hok : h.okCells B = some c := okCells_iff.2 ⟨a6, f, a7, a8⟩
    have hnc : n * sz ≤ cap * sz := Nat.mul_le_mul_right _ a10
    have hst : h.store ⟨B, off + k, none⟩ vs = some { h with blks := h.blks.set B (.cells { c with cells := putN c.cells (off + k) vs }), fams := h.fams.set c.fam { f with since := h.next, who := B } } := by
      simp only [Heap.store, hok]
      rw [Nat.ble_eq_true_of_le (show off + k + vs.length ≤ c.cells.length by omega)]
      simp [a9, a7, hone]
    refine ⟨B, off, sp, cap, _, rfl, hst, ⟨?_, .inr ⟨B, off, sp, cap, { c with cells := putN c.cells (off + k) vs }, { f with since := h.next, who := B }, rfl, a2, a3, a4, a5, PT.get_set_eq _ _ _, PT.get_set_eq _ _ _, .inl rfl, Nat.le_refl _, a9, a10, ?_, ?_, a13⟩⟩, ⟨Nat.le_refl _, ?_, ?_⟩⟩
    · rw [zi (by omega)]; exact h1
    · rw [zi (by omega)]; exact a11
    · show ((putN c.cells (off + k) vs).drop off).take (n * sz) = _
      rw [drop_putN (by omega) (by omega), a12]
    · intro A _ hn; exact PT.get_set_ne _ _ fun e => hn (e ▸ a2)
    · intro A _ hn; exact PT.get_set_ne _ _ fun e => hn (e ▸ a3)
theorem putN_mid {a b c : List Value} : putN (a ++ b ++ c) a.length (c ++ b) = a ++ c ++ b := by
  have := putN_at (l := a ++ b ++ c) (a := a) (b := b ++ c) (c := []) a.length (by simp) rfl (vs := c ++ b) (by simp; omega)
  simpa using this
theorem Own.insert (ho : Own g S sz v n l) (hlit : lit.length = m * sz) (hm : m ≠ 0) (hone : lit.all oneC = true) (hlone : l.all oneC = true) (hsz : sz ≠ 0) (hby : bytes ≠ 0) (hroom : (n + m) * bytes ≤ roomX) {i : Nat} (hi : i ≤ n) :
    ∃ v' h', insertG sz bytes [v, .int .i64 (i : Int), .slice (some ⟨g.next, 0, none⟩) m m] (g.new lit) = some (v', h') ∧ Own h' (fun A => S A ∨ g.next < A) sz v' (n + m) (l.take (i * sz) ++ lit ++ l.drop (i * sz)) ∧ Keeps S (g.new lit) h' := by
  have hV : Var (g.new lit) g.next lit := Var.new_self
  have hO := ho.grow (Grows.new (l := lit))
  have hll : l.length = n * sz := ho.1
  obtain ⟨v1, h1, e1, hO1, k1⟩ := hO.append (bytes := bytes) (m := m) (new := lit) hlit hone hsz hby hroom
  have hld : (g.new lit).loadN ⟨g.next, 0, none⟩ (m * sz) = some lit := hV.loadAll hlit
  have hmono : ∀ A, (S A ∨ (g.new lit).next ≤ A) → (S A ∨ g.next < A) := fun A hA => hA.imp id fun q => by
    have : (g.new lit).next = g.next + 1 := rfl
    omega
  obtain ⟨b, cap, hv, hsh⟩ := hO.shape
  have hcond : ¬ (m = 0 ∨ (i : Int) < 0 ∨ (n : Int) < (i : Int)) := by omega
  by_cases hin : i = n
  · subst hin
    refine ⟨v1, h1, ?_, ?_, k1⟩
    · rw [hv] at e1 ⊢
      simp only [insertG]
      rw [if_neg hcond, hld]
      simp only [if_true]
      exact e1
    · rw [List.take_of_length_le (by omega), List.drop_of_length_le (by omega), List.append_nil]
      exact hO1.mono hmono
  · have hn0 : n ≠ 0 := by omega
    obtain ⟨B, off, sp, rfl, hl1, _⟩ := hsh hn0
    have hmul : (n + m) * sz = n * sz + m * sz := Nat.add_mul _ _ _
    have his : i * sz ≤ n * sz := Nat.mul_le_mul_right _ hi
    obtain ⟨B1, off1, sp1, cap1, h2, rfl, st, hO2, k2⟩ := hO1.putAt (by omega) (k := i * sz) (vs := lit ++ l.drop (i * sz)) (by simp only [List.length_append, List.length_drop]; omega) (by
      rw [List.all_append, hone, Bool.true_and, List.all_eq_true]
      intro x hx
      exact List.all_eq_true.1 hlone x (List.mem_of_mem_drop hx))
    have hap : apartX (g.new lit) ⟨B, off, sp⟩ ⟨g.next, 0, none⟩ = true := by
      obtain ⟨_, hv2⟩ := ho
      rcases hv2 with ⟨e, rfl⟩ | ⟨B2, off2, sp2, cap2, c, f, e, a2, a3, a4, a5, a6, a7, a8, a14, a9, a10, a11, a12, a13⟩
      · exact absurd rfl hn0
      · rw [hv] at e
        cases e
        have hok : (g.new lit).okCells B = some c := by
          refine okCells_iff.2 ⟨?_, f, ?_, a8⟩
          · rw [← a6]; exact PT.get_set_ne _ _ (by omega)
          · rw [← a7]; exact PT.get_set_ne _ _ (by omega)
        have hok2 : (g.new lit).okCells g.next = some ⟨lit, g.next, 0, false⟩ := okCells_iff.2 ⟨PT.get_set_eq _ _ _, ⟨0, g.next, lit.length⟩, PT.get_set_eq _ _ _, .inl rfl⟩
        have hf2 : (g.new lit).fams.get g.next = some ⟨0, g.next, lit.length⟩ := PT.get_set_eq _ _ _
        have hne : c.fam.beq g.next = false := by
          cases hb : c.fam.beq g.next with
          | false => rfl
          | true => have := Nat.eq_of_beq_eq_true hb; omega
        simp only [apartX, hok, hok2, hf2, a9, hne]
        rfl
    refine ⟨.slice (some ⟨B1, off1, sp1⟩) (n + m) cap1, h2, ?_, ?_, (k1.trans k2 fun A hA q => ?_)⟩
    · rw [hv] at e1 ⊢
      simp only [insertG]
      rw [if_neg hcond, hld]
      simp only
      rw [if_neg (by omega), if_pos hap, Int.toNat_natCast]
      simp only [insertAt, hl1, e1, st]
    · have e : putN (l ++ lit) (i * sz) (lit ++ l.drop (i * sz)) = l.take (i * sz) ++ lit ++ l.drop (i * sz) := by
        have h3 : (l.take (i * sz)).length = i * sz := by simp; omega
        have := putN_mid (a := l.take (i * sz)) (b := l.drop (i * sz)) (c := lit)
        rw [List.take_append_drop, h3] at this
        exact this
      rw [e] at hO2
      exact hO2.mono hmono
    · rcases q with q | q
      · exact q
      · omega
end
end Go.X
end
section
namespace Go.X
end Go.X
end
section
namespace Go.X
set_option linter.unusedVariables false
section
variable {pr : Prog} {full : List XO} {cs : List (Nat × Nat × List Nat)} {i : Nat} {tr : List (Fr × Heap)} {K : Fr → Heap → Prop} {t : Fr} {h : Heap}
end
end Go.X
end
