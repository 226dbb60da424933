/- The table of what is told. -/
import Derived.Test.YtbbmklepnfmppaaGreatProg
import Derived.KernelRfl
import Derived.Shelf.Spec.SlicesInsertGrow
import Derived.WalkKit
import Derived.WideWitness
import Derived.Test.YtbbmklepnfmppaaGreatXC
import Derived.Test.YtbbmklepnfmppaaGreatXD
import Derived.Test.YtbbmklepnfmppaaGreatXE
import Derived.Test.YtbbmklepnfmppaaGreatXH
import Derived.Test.YtbbmklepnfmppaaGreatXI
set_option linter.unusedSimpArgs false
set_option linter.unusedVariables false
set_option maxHeartbeats 2000000
section
open Go Go.X Go.Proofs Go.RowKit
namespace Go.X
set_option linter.unusedVariables false
def trueS : List Value → Option Value
  | [] => some (.bool true)
  | _ => none
theorem mixed : Tryz.prog.follows .mixedOrders = true := by kernel_rfl
theorem codeAt {P : Program} {l : List (Nat × Prim)} {f : Nat} {fn : Func} {F : XF} (hf : P.funcs[f]? = some fn) (hF : zj P fn = some F) : (Tab P l).code f = some F := by
  simp only [Tab, hf, Option.bind_some, hF]
theorem loadN_len {h : Heap} {a : Addr} {n : Nat} {l : List Value} (hl : h.loadN a n = some l) : l.length = n := by
  unfold Heap.loadN at hl
  split at hl
  · rename_i c hc
    unfold takeN at hl
    cases hb : (a.off + n).ble c.cells.length with
    | false => rw [hb] at hl; cases hl
    | true =>
      rw [hb] at hl
      cases hl
      have := Nat.le_of_ble_eq_true hb
      simp; omega
  · cases hl
theorem Tab.words {P : Program} {l : List (Nat × Prim)} (ok : XOK P (Tab P l)) {f : Nat} {fn : Func} (hf : P.funcs[f]? = some fn) (hF : zj P fn = some xq237) (hp : (Tab P l).prim 238 = some (zY zAO)) : XOK P (Tab P ((f, wordsG) :: l)) := by
  refine Tab.cons ok fun args h v h' hr => ?_
  unfold wordsG at hr
  split at hr
  · rename_i a cap
    split at hr
    · rename_i cs hcs
      split at hr
      · rename_i bs hbs
        cases hr
        refine ⟨callable_of hf hF, Nat.le_refl _, zBX ok hf hF rfl (fun _ _ _ _ _ _ => ⟨_, flat_rel (v := .agg _) ?_⟩) fun n hn wf => ?_⟩
        · show ((List.map (uw IntKind.u32) _).toArray.toList.all zr) = true
          rw [List.all_eq_true]
          intro x hx
          simp only [List.mem_map] at hx
          obtain ⟨y, _, rfl⟩ := hx
          rfl
        · have hld : ∀ j, j < 64 → (h.at n).load ⟨a.block, a.off + j, none⟩ = some (uw .u8 (bs.getD j 0).toNat) := by
            intro j hj
            obtain rfl := bytesS_eq hbs
            have hlen : (zV bs).length = 64 := loadN_len hcs
            rw [zBG] at hlen
            exact load_of_loadN (show (h.at n).loadN a 64 = some (zV bs) from hcs) (zBa (by omega))
          exact words_ok (Tab P l) hp (h.at n) wf a cap _ (fun j => (bs.getD j 0).toNat_lt) hld
      · cases hr
    · cases hr
  · cases hr
end Go.X
namespace Go.X
set_option linter.unusedVariables false
theorem rotlS_ok {args : List Value} {v : Value} (h : rotlS args = some v) : args.length = 2 ∧ zp v = true ∧ ∀ pr h, Comes pr xq259 args h v := by
  unfold rotlS at h
  split at h
  · rename_i a n
    split at h
    · rename_i hc
      cases h
      refine ⟨rfl, rfl, fun pr h => ?_⟩
      have := rotl_ok pr a.toNat (-n).toNat h (by omega) (by omega)
      rw [show -((-n).toNat : Int) = n by omega] at this
      have e : uw .u32 a.toNat = .int .u32 a := by unfold uw; rw [zAZ, Nat.mod_eq_of_lt (by omega)]; congr 1; omega
      rw [e] at this
      exact this
    · cases h
  · cases h
theorem rightS_ok {args : List Value} {v : Value} (h : zAO args = some v) : args.length = 2 ∧ zp v = true ∧ ∀ pr h, pr.prim 259 = some (zY rotlS) → Comes pr xq238 args h v := by
  unfold zAO at h
  split at h
  · rename_i a n
    split at h
    · rename_i hc
      cases h
      refine ⟨rfl, rfl, fun pr h hp => ?_⟩
      have := right_ok pr hp a.toNat n.toNat h (by omega)
      rw [show (n.toNat : Int) = n by omega] at this
      have e : uw .u32 a.toNat = .int .u32 a := by unfold uw; rw [zAZ, Nat.mod_eq_of_lt (by omega)]; congr 1; omega
      rw [e] at this
      exact this
    · cases h
  · cases h
theorem turnS_ok {args : List Value} {v : Value} (h : turnS args = some v) : args.length = 2 ∧ zp v = true ∧ ∀ pr h, Comes pr xq235 args h v := by
  unfold turnS at h
  split at h
  · rename_i a n
    split at h
    · rename_i hc
      cases h
      refine ⟨rfl, rfl, fun pr h => ?_⟩
      have := turn_ok pr a.toNat n.toNat h (by omega)
      rw [show (n.toNat : Int) = n by omega] at this
      have e : uw .u32 a.toNat = .int .u32 a := by unfold uw; rw [zAZ, Nat.mod_eq_of_lt (by omega)]; congr 1; omega
      rw [e] at this
      exact this
    · cases h
  · cases h
theorem str_of (s : ByteArray) : strOf s.data.toList = s := strOf_data s
theorem shaS_ok {args : List Value} {v : Value} (h : shaS args = some v) : args.length = 1 ∧ zp v = true ∧ (∀ pr h, ShaTab pr → Comes pr xq156 args h v) ∧ (∀ pr h, pr.prim 235 = some (zY turnS) → pr.prim 234 = some (zY tableS) → Comes pr xq205 args h v) := by
  unfold shaS at h
  split at h
  · rename_i s
    split at h
    · rename_i hc
      cases h
      refine ⟨rfl, rfl, fun pr h T => ?_, fun pr h h1 h2 => ?_⟩
      · have := shaSum_ok pr T s.data.toList hc h
        rwa [str_of] at this
      · have := ref01Sum_ok pr h1 h2 s.data.toList hc h
        rwa [str_of] at this
    · cases h
  · cases h
theorem padS_ok {args : List Value} {v : Value} (h : padS args = some v) : args.length = 2 ∧ zp v = true ∧ ∀ pr h, pr.prim 156 = some (zY shaS) → pr.prim 264 = some (zY repeatS) → Comes pr xq250 args h v := by
  unfold padS at h
  split at h
  · rename_i k b
    split at h
    · rename_i hc
      cases h
      refine ⟨rfl, rfl, fun pr h h1 h2 => ?_⟩
      have := pad_ok pr h1 h2 k.data.toList (UInt8.ofNat b.toNat) hc.1 h
      rw [str_of] at this
      have e : uw .u8 (UInt8.ofNat b.toNat).toNat = .int .u8 b := by
        rw [uw_byte, UInt8.toNat_ofNat']
        congr 1; omega
      rw [e] at this
      exact this
    · cases h
  · cases h
theorem tagS_ok {args : List Value} {v : Value} (h : tagS args = some v) : args.length = 2 ∧ zp v = true ∧ (∀ pr h, pr.prim 156 = some (zY shaS) → pr.prim 250 = some (zY padS) → Comes pr xq216 args h v) := by
  unfold tagS at h
  split at h
  · rename_i k s
    split at h
    · rename_i hc
      cases h
      refine ⟨rfl, rfl, fun pr h h1 h2 => ?_⟩
      have := tag_ok pr h1 h2 k.data.toList s.data.toList hc.1 hc.2 h
      rwa [str_of, str_of] at this
    · cases h
  · cases h
theorem sameS_ok {args : List Value} {v : Value} (h : sameS args = some v) : args.length = 2 ∧ zp v = true ∧ ∀ pr h, Comes pr xq183 args h v := by
  unfold sameS at h
  split at h
  · rename_i a b
    split at h
    · rename_i hc
      cases h
      refine ⟨rfl, rfl, fun pr h => ?_⟩
      have := same_ok pr a.data.toList b.data.toList hc h
      rwa [str_of, str_of] at this
    · cases h
  · cases h
theorem checkS_ok {args : List Value} {v : Value} (h : checkS args = some v) : args.length = 3 ∧ zp v = true ∧ ∀ pr h, pr.prim 183 = some (zY sameS) → pr.prim 216 = some (zY tagS) → Comes pr xq222 args h v := by
  unfold checkS at h
  split at h
  · rename_i k s t
    split at h
    · rename_i hc
      cases h
      refine ⟨rfl, rfl, fun pr h h1 h2 => ?_⟩
      have := check_ok pr h1 h2 k.data.toList s.data.toList t.data.toList hc.1 hc.2 h
      rwa [str_of, str_of, str_of] at this
    · cases h
  · cases h
theorem nilary {args : List Value} {v w : Value} {s : List Value → Option Value} (hs : ∀ a l, s (a :: l) = none) (hw : s [] = some w) (h : s args = some v) : args = [] ∧ v = w := by
  cases args with
  | nil => rw [hw] at h; exact ⟨rfl, (Option.some.inj h).symm⟩
  | cons a l => rw [hs] at h; cases h
theorem callrel_of_below {P : Program} {f : Nat} {args : List Value} {v : Value} (ha : args.all zp = true) (hv : zp v = true) (hc : ∀ w, Calls P f args.toArray w fun e w' => e = .returned v ∧ Below w.heap.size w w') (h : Heap) : CallRel P f args h v h := by
  intro base ρ w args' hr wf hpre hargs
  have e : args' = args := by
    clear hr hpre hc
    induction hargs with
    | nil => rfl
    | cons h1 _ ih =>
      simp only [List.all_cons, Bool.and_eq_true] at ha
      rw [flat_eq ha.1 h1, ih ha.2]
  subst e
  refine (hc w).mono fun e w' hq => ?_
  obtain ⟨rfl, q3⟩ := hq
  exact ⟨_, ρ, rfl, hr.below q3, wf, ⟨fun _ _ h => h, fun _ h => absurd rfl h, Nat.le_refl _, fun _ _ h => h, fun _ _ _ => ⟨rfl, rfl⟩, q3.mono hr.le, fun r h1 _ => q3.block r h1, fun A l h1 h2 => by rw [h1] at h2; cases h2⟩, flat_rel hv⟩
theorem Tab.below {P : Program} {l : List (Nat × Prim)} (ok : XOK P (Tab P l)) {f : Nat} (hcall : zAU P f) {s : List Value → Option Value}
    (hs : ∀ args v, s args = some v → args.all zp = true ∧ zp v = true ∧ ∀ w, Calls P f args.toArray w fun e w' => e = .returned v ∧ Below w.heap.size w w') : XOK P (Tab P ((f, zY s) :: l)) := by
  refine Tab.cons ok fun args h v h' hr => ?_
  unfold zY at hr
  split at hr
  · rename_i v1 hv
    cases hr
    obtain ⟨h1, h2, h3⟩ := hs args v hv
    exact ⟨hcall, Nat.le_refl _, callrel_of_below h1 h2 h3 h⟩
  · cases hr
end Go.X
end
section
open Go Go.X Go.Proofs Go.RowKit
namespace Go.X
set_option linter.unusedVariables false
theorem repeatS_ok {args : List Value} {v : Value} (h : repeatS args = some v) : args.all zp = true ∧ zp v = true ∧ ∀ w, Calls Tryz.prog 264 args.toArray w fun e w' => e = .returned v ∧ Below w.heap.size w w' := by
  unfold repeatS at h
  split at h
  · rename_i s c
    split at h
    · rename_i hc
      cases h
      refine ⟨rfl, rfl, fun w => ?_⟩
      have hr64 : zX = 140737488355328 := rfl
      have := Tryz.strings_Repeat s c.toNat w (by omega) (by rw [Lib.size_eq]; omega)
      rw [show (c.toNat : Int) = c by omega] at this
      have e : Lib.repeatL s.data.toList c.toNat = (List.replicate c.toNat s.data.toList).flatten := by
        generalize c.toNat = n
        induction n with
        | zero => rfl
        | succ n ih => simp only [Lib.repeatL, ih, List.replicate_succ, List.flatten_cons]
      rw [e] at this
      exact this
    · cases h
  · cases h
def T1 : List (Nat × Prim) := [(259, zY rotlS)]
def T2 : List (Nat × Prim) := (238, zY zAO) :: T1
def T3 : List (Nat × Prim) := (237, wordsG) :: T2
def T4 : List (Nat × Prim) := (236, zY zAr) :: T3
def T5 : List (Nat × Prim) := (207, zY beginS) :: T4
def T6 : List (Nat × Prim) := (156, zY shaS) :: T5
def T7 : List (Nat × Prim) := (235, zY turnS) :: T6
def T8 : List (Nat × Prim) := (234, zY tableS) :: T7
def T9 : List (Nat × Prim) := (205, zY shaS) :: T8
def T10 : List (Nat × Prim) := (264, zY repeatS) :: T9
def T11 : List (Nat × Prim) := (250, zY padS) :: T10
def T12 : List (Nat × Prim) := (216, zY tagS) :: T11
def T14 : List (Nat × Prim) := (183, zY sameS) :: T12
def T15 : List (Nat × Prim) := (222, zY checkS) :: T14
theorem ok1 : XOK Tryz.prog (Tab Tryz.prog T1) := Tab.pure (Tab.nil mixed) Tryz.func259 cq259 fun args v h => ⟨(rotlS_ok h).1, (rotlS_ok h).2.1, fun g => (rotlS_ok h).2.2 _ g⟩
theorem ok2 : XOK Tryz.prog (Tab Tryz.prog T2) := Tab.pure ok1 Tryz.func238 cq238 fun args v h => ⟨(rightS_ok h).1, (rightS_ok h).2.1, fun g => (rightS_ok h).2.2 _ g rfl⟩
theorem ok3 : XOK Tryz.prog (Tab Tryz.prog T3) := Tab.words ok2 Tryz.func237 cq237 rfl
theorem ok4 : XOK Tryz.prog (Tab Tryz.prog T4) := Tab.pure ok3 Tryz.func236 cq236 fun args v h => by
  obtain ⟨rfl, rfl⟩ := nilary (s := zAr) (fun _ _ => rfl) rfl h
  exact ⟨rfl, by kernel_rfl, fun g => constants_ok _ g⟩
theorem ok5 : XOK Tryz.prog (Tab Tryz.prog T5) := Tab.pure ok4 Tryz.func207 cq207 fun args v h => by
  obtain ⟨rfl, rfl⟩ := nilary (s := beginS) (fun _ _ => rfl) rfl h
  exact ⟨rfl, by kernel_rfl, fun g => begin_ok _ g⟩
theorem sha5 : ShaTab (Tab Tryz.prog T5) := ⟨rfl, rfl, rfl, rfl, rfl, codeAt Tryz.func208 cq208, rfl, codeAt Tryz.func172 cq172, rfl, codeAt Tryz.func173 cq173, rfl, codeAt Tryz.func175 cq175⟩
theorem ok6 : XOK Tryz.prog (Tab Tryz.prog T6) := Tab.pure ok5 Tryz.func156 cq156 fun args v h => ⟨(shaS_ok h).1, (shaS_ok h).2.1, fun g => (shaS_ok h).2.2.1 _ g sha5⟩
theorem ok7 : XOK Tryz.prog (Tab Tryz.prog T7) := Tab.pure ok6 Tryz.func235 cq235 fun args v h => ⟨(turnS_ok h).1, (turnS_ok h).2.1, fun g => (turnS_ok h).2.2 _ g⟩
theorem ok8 : XOK Tryz.prog (Tab Tryz.prog T8) := Tab.pure ok7 Tryz.func234 cq234 fun args v h => by
  obtain ⟨rfl, rfl⟩ := nilary (s := tableS) (fun _ _ => rfl) rfl h
  exact ⟨rfl, by kernel_rfl, fun g => table_ok _ g⟩
theorem ok9 : XOK Tryz.prog (Tab Tryz.prog T9) := Tab.pure ok8 Tryz.func205 cq205 fun args v h => ⟨(shaS_ok h).1, (shaS_ok h).2.1, fun g => (shaS_ok h).2.2.2 _ g rfl rfl⟩
theorem ok10 : XOK Tryz.prog (Tab Tryz.prog T10) := Tab.below ok9 ⟨_, Tryz.func264, by decide +kernel, by kernel_rfl⟩ fun args v h => repeatS_ok h
theorem ok11 : XOK Tryz.prog (Tab Tryz.prog T11) := Tab.pure ok10 Tryz.func250 cq250 fun args v h => ⟨(padS_ok h).1, (padS_ok h).2.1, fun g => (padS_ok h).2.2 _ g rfl rfl⟩
theorem ok12 : XOK Tryz.prog (Tab Tryz.prog T12) := Tab.pure ok11 Tryz.func216 cq216 fun args v h => ⟨(tagS_ok h).1, (tagS_ok h).2.1, fun g => (tagS_ok h).2.2 _ g rfl rfl⟩
theorem ok14 : XOK Tryz.prog (Tab Tryz.prog T14) := Tab.pure ok12 Tryz.func183 cq183 fun args v h => ⟨(sameS_ok h).1, (sameS_ok h).2.1, fun g => (sameS_ok h).2.2 _ g⟩
theorem ok15 : XOK Tryz.prog (Tab Tryz.prog T15) := Tab.pure ok14 Tryz.func222 cq222 fun args v h => ⟨(checkS_ok h).1, (checkS_ok h).2.1, fun g => (checkS_ok h).2.2 _ g rfl rfl⟩
end Go.X
end
section
open Go Go.X
namespace Go.X
set_option linter.unusedVariables false
def fourB (n : Nat) : List UInt8 := [UInt8.ofNat (n / 16777216), UInt8.ofNat (n / 65536), UInt8.ofNat (n / 256), UInt8.ofNat n]
def partB (s : List UInt8) : List UInt8 := fourB s.length ++ s
def zk (l : List (List UInt8)) : List UInt8 := l.flatMap partB
def tagged (p : UInt8) (l : List (List UInt8)) : List UInt8 := sha (p :: zk l)
def zA8 (l : List (List UInt8)) : List Value := l.map fun s => .string (strOf s)
theorem cellsOfStrs_len {l : List (List UInt8)} : (zA8 l).length = l.length := by simp [zA8]
theorem cellsOfStrs_get {l : List (List UInt8)} {i : Nat} (hi : i < l.length) : (zA8 l)[i]? = some (.string (strOf (l.getD i []))) := by
  simp [zA8, List.getElem?_map, List.getElem?_eq_getElem hi, List.getD_eq_getElem?_getD]
def fourS : List Value → Option Value
  | [.int .i64 n] => if 0 ≤ n ∧ n < 9223372036854775808 then some (.string (strOf (fourB n.toNat))) else none
  | _ => none
theorem fourS_at {n : Nat} (h : n < 9223372036854775808) : fourS [.int .i64 (n : Int)] = some (.string (strOf (fourB n))) := by
  simp only [fourS]
  rw [if_pos (by omega)]
  simp
theorem zBQ (n : Nat) : zV (fourB n) = [uw .u8 (n / 16777216), uw .u8 (n / 65536), uw .u8 (n / 256), uw .u8 n] := by
  simp only [← zAp]
  rfl
theorem fill4' {z : Value} {a b c d : Nat} : z8 (List.replicate 4 z) [(0, 1, uw .u8 a), (1, 1, uw .u8 b), (2, 1, uw .u8 c), (3, 1, uw .u8 d)] = some [uw .u8 a, uw .u8 b, uw .u8 c, uw .u8 d] := by simp [z8, zBH, putN, List.replicate]
theorem shrI {k : IntKind} {n j : Nat} (hj : j ≤ 64) : binX .shr (.int .i64 (n : Int)) (.int k (OfNat.ofNat j)) = some (.int .i64 ((n / 2 ^ j : Nat) : Int)) := by
  have e : (OfNat.ofNat j : Int) = (j : Int) := rfl
  rw [e, bin_shr (by omega), Int.toNat_natCast, Nat.min_eq_left (show j ≤ IntKind.i64.bits from hj), Int.fdiv_eq_ediv_of_nonneg _ (by exact Int.le_of_lt (Int.pow_pos (by omega)))]
  simp
theorem four_ok (pr : Prog) (n : Nat) (hn : n < 9223372036854775808) (h : Heap) : Comes pr xq174 [.int .i64 (n : Int)] h (.string (strOf (fourB n))) := by
  apply Comes.of
  unfold xq174
  dsimp only [zh]
  have c := fun n => uw_cint (k := .u8) (k' := .i64) u8_signed (n := n)
  have hO := Own.newSlice (h := h) (l := zV (fourB n)) (n := 4) (esz := 1) (sp := none) (by rw [zBQ]; rfl) (.inl rfl)
  have s24 := shrI (k := .u64) (n := n) (j := 24) (by decide)
  have s16 := shrI (k := .u64) (n := n) (j := 16) (by decide)
  have s8 := shrI (k := .u64) (n := n) (j := 8) (by decide)
  simp only [Nat.reducePow] at s24 s16 s8
  have hb := hO.cb2s
  rw [zBQ] at hb
  (repeat (first | refine zS ?_ | refine zK ?_ | refine zR ?_ | refine zD ?_ | refine zB ?_ | refine zI ?_ | refine zJ ?_ | refine zP ?_ | refine zE ?_ | refine zG ?_ | refine zF ?_ | refine zH (by decide) ?_ | refine zQ ?_ | ((first | refine zC ?_ | refine zM ?_ | refine zO rfl rfl ?_ | refine zN rfl ?_ | refine zL ?_); simp only [yq174.down, zA, lemS.down, lemC.down, Int.reduceBEq, Nat.reduceAdd, Nat.reduceLeDiff, reduceIte, Nat.reduceEqDiff, Int.reduceLT, Int.reduceLE, Int.reduceGT, Int.reduceGE, Int.reduceEq, Int.reduceAdd, Int.reduceSub, Int.reduceMul, reduceCtorEq, lemH.down, lemW.down, s24, s16, s8, c, fill4', hb])))
  exact ⟨.inr rfl, by simp only [yq174.down, zA, lemS.down, lemC.down, Int.reduceBEq, Nat.reduceAdd, Nat.reduceLeDiff, reduceIte, Nat.reduceEqDiff, Int.reduceLT, Int.reduceLE, Int.reduceGT, Int.reduceGE, Int.reduceEq, Int.reduceAdd, Int.reduceSub, Int.reduceMul, reduceCtorEq], Grows.new⟩
end Go.X
end
section
open Go Go.X
namespace Go.X
set_option linter.unusedVariables false
theorem st_app (b s : List UInt8) : zd ((b.drop (64 * (b.length / 64)) ++ s).length / 64) (zd (b.length / 64) Sha.H0 b) (b.drop (64 * (b.length / 64)) ++ s) = zd ((b ++ s).length / 64) Sha.H0 (b ++ s) ∧
    (b.drop (64 * (b.length / 64)) ++ s).drop (64 * ((b.drop (64 * (b.length / 64)) ++ s).length / 64)) = (b ++ s).drop (64 * ((b ++ s).length / 64)) := by
  have hd : (b ++ s).drop (64 * (b.length / 64)) = b.drop (64 * (b.length / 64)) ++ s := List.drop_append_of_le_length (by omega)
  have hl : (b.drop (64 * (b.length / 64)) ++ s).length = (b ++ s).length - 64 * (b.length / 64) := by rw [← hd, List.length_drop]
  have hn : (b ++ s).length / 64 = b.length / 64 + (b.drop (64 * (b.length / 64)) ++ s).length / 64 := by
    rw [hl, List.length_append]; omega
  constructor
  · rw [hn, absorb_add, zBN (b.length / 64) Sha.H0 b s (by omega), hd]
  · rw [hn, Nat.mul_add, ← List.drop_drop, hd]
def DigB (h : Heap) (N D : Nat) (b : List UInt8) : Prop := Dig h N D (zd (b.length / 64) Sha.H0 b) (b.drop (64 * (b.length / 64))) b.length
theorem New_B {pr : Prog} (T : ShaTab pr) (h : Heap) : ∃ v h', cfi pr 172 [] h = some (v, h') ∧ v = .pointer (some ⟨h.next, 0, none⟩) ∧ DigB h' h.next h.next [] ∧ Grows h h' := New_run pr T.begin T.new T.newC h
theorem Write_B {pr : Prog} (T : ShaTab pr) {h : Heap} {N D : Nat} {b : List UInt8} (hd : DigB h N D b) (s : List UInt8) (hroom : s.length + 64 ≤ zX) :
    ∃ v h', cfi pr 173 [.pointer (some ⟨D, 0, none⟩), .string (strOf s)] h = some (v, h') ∧ v = .tuple #[] ∧ DigB h' N D (b ++ s) ∧ Keeps (fun A => N ≤ A) h h' := by
  obtain ⟨v, h', e, hv, d, k⟩ := Write_run pr T.right T.words T.consts T.blk T.blkC T.wr T.wrC h N D _ _ _ s hd (by rw [List.length_drop]; omega)
  rw [(st_app b s).1, (st_app b s).2, ← List.length_append] at d
  exact ⟨v, h', e, hv, d, k⟩
theorem Sum_B {pr : Prog} (T : ShaTab pr) {h : Heap} {N D : Nat} {b : List UInt8} (hd : DigB h N D b) : ∃ v h', cfi pr 175 [.pointer (some ⟨D, 0, none⟩)] h = some (v, h') ∧ v = .string (strOf (sha b)) ∧ Grows h h' := by
  have := Sum_run pr T.right T.words T.consts T.blk T.blkC T.sum T.sumC h N D _ _ _ hd (by rw [List.length_drop]; have : zX = 140737488355328 := rfl; omega)
  rw [sha_parts] at this
  exact this
def strCells : List Value → Option (List (List UInt8))
  | [] => some []
  | .string s :: r => (match strCells r with | some l => some (s.data.toList :: l) | none => none)
  | _ :: _ => none
theorem strCells_eq : ∀ {cs : List Value} {l : List (List UInt8)}, strCells cs = some l → cs = zA8 l
  | [], l, h => by cases h; rfl
  | c :: cs, l, h => by
    unfold strCells at h
    split at h
    · rename_i heq; cases heq
    · rename_i s r heq
      cases heq
      split at h
      · rename_i q hq
        cases h
        rw [strCells_eq hq]
        simp only [zA8, List.map_cons]
        rw [show strOf s.data.toList = s from strOf_data s]
      · cases h
    · cases h
def strsAt (h : Heap) : Value → Option (List (List UInt8))
  | .slice none n _ => if n = 0 then some [] else none
  | .slice (some a) n _ => if n = 0 then some [] else (match h.loadN a n with | some cs => strCells cs | none => none)
  | _ => none
theorem loadN_len2 {h : Heap} {a : Addr} {n : Nat} {l : List Value} (hl : h.loadN a n = some l) : l.length = n := by
  unfold Heap.loadN at hl
  split at hl
  · rename_i c hc
    unfold takeN at hl
    cases hb : (a.off + n).ble c.cells.length with
    | false => rw [hb] at hl; cases hl
    | true =>
      rw [hb] at hl
      cases hl
      have := Nat.le_of_ble_eq_true hb
      simp; omega
  · cases hl
theorem strsAt_elim {h : Heap} {v : Value} {l : List (List UInt8)} (hs : strsAt h v = some l) : ∃ a cap, v = .slice a l.length cap ∧ ∀ i, i < l.length → ∃ B o, (∀ k : IntKind, zAR 1 v (.int k (i : Int)) = some (.pointer (some ⟨B, o, none⟩))) ∧ h.load ⟨B, o, none⟩ = some (.string (strOf (l.getD i []))) := by
  unfold strsAt at hs
  split at hs
  · rename_i n c
    split at hs
    · rename_i h0
      cases hs
      subst h0
      exact ⟨none, c, rfl, fun i hi => by simp at hi⟩
    · cases hs
  · rename_i a n c
    split at hs
    · rename_i h0
      cases hs
      subst h0
      exact ⟨some a, c, rfl, fun i hi => by simp at hi⟩
    · split at hs
      · rename_i cs hcs
        obtain rfl := strCells_eq hs
        have hn : l.length = n := by
          have := loadN_len2 hcs
          rw [cellsOfStrs_len] at this
          exact this
        subst hn
        exact ⟨some a, c, rfl, fun i hi => ⟨a.block, a.off + i, fun k => zAz hi, load_of_loadN hcs (cellsOfStrs_get hi)⟩⟩
      · cases hs
  · cases hs
def taggedG : Prim := fun args h => match args with
  | [.int .u8 p, v] => (match strsAt h v with
    | some l => if 0 ≤ p ∧ p < 256 ∧ (zk l).length + 1000 ≤ zX then some (.string (strOf (tagged (UInt8.ofNat p.toNat) l)), h) else none
    | none => none)
  | _ => none
theorem zBT {l : List (List UInt8)} {i : Nat} (hi : i < l.length) : zk (l.take (i + 1)) = zk (l.take i) ++ fourB (l.getD i []).length ++ l.getD i [] := by
  unfold zk
  rw [List.take_succ_eq_append_getElem hi, List.flatMap_append, List.flatMap_cons, List.flatMap_nil, List.append_nil, List.append_assoc]
  simp [partB, List.getD_eq_getElem?_getD, List.getElem?_eq_getElem hi]
theorem part_le {l : List (List UInt8)} {i : Nat} (hi : i < l.length) : (l.getD i []).length + 4 ≤ (zk l).length := by
  have h1 := zBT hi
  have h2 : zk l = zk (l.take (i + 1)) ++ zk (l.drop (i + 1)) := by
    unfold zk; rw [← List.flatMap_append, List.take_append_drop]
  rw [h2, h1]
  simp [fourB]
  omega
theorem parts_count {l : List (List UInt8)} : l.length * 4 ≤ (zk l).length := by
  induction l with
  | nil => simp
  | cons s l ih =>
    unfold zk at ih ⊢
    simp only [List.flatMap_cons, List.length_append, List.length_cons, partB, fourB] at ih ⊢
    simp only [List.length_nil]
    omega
end Go.X
end
section
open Go Go.X
namespace Go.X
set_option linter.unusedVariables false
theorem byte_cell {p : Nat} (hp : p < 256) {h : Heap} : cb2sV (h.new [uw .u8 p]) (.slice (some ⟨h.next, 0, none⟩) 1 1) = some (.string (strOf [UInt8.ofNat p])) := by
  have hO := Own.newSlice (h := h) (l := zV [UInt8.ofNat p]) (n := 1) (esz := 1) (sp := none) rfl (.inl rfl)
  have := hO.cb2s
  rw [zAp] at this
  exact this
theorem tagged_ok (pr : Prog) (T : ShaTab pr) (hf : pr.prim 174 = some (zY fourS)) (p : Nat) (hp : p < 256) (h : Heap) (wf : HWF h) (v : Value) (l : List (List UInt8)) (hs : strsAt h v = some l) (hr : (zk l).length + 1000 ≤ zX) :
    Comes pr xq129 [uw .u8 p, v] h (.string (strOf (tagged (UInt8.ofNat p) l))) := by
  apply Comes.of
  unfold xq129
  dsimp only [zh]
  have hr64 : zX = 140737488355328 := rfl
  obtain ⟨a, cap, rfl, hel⟩ := strsAt_elim hs
  obtain ⟨_, h1, e1, rfl, d1, g1⟩ := New_B T h
  have g2 : Grows h (h1.new [uw .u8 p]) := g1.trans Grows.new
  obtain ⟨_, h3, e3, rfl, d3, k3⟩ := Write_B T (d1.keep (W := none1) (Grows.new (l := [uw .u8 p])).keeps (fun _ _ => id)) [UInt8.ofNat p] (by simp; omega)
  have g3 := g2.then k3 (fun A hA => by omega)
  (repeat (first | refine zS ?_ | refine zK ?_ | refine zR ?_ | refine zD ?_ | refine zB ?_ | refine zI ?_ | refine zJ ?_ | refine zP ?_ | refine zE ?_ | refine zG ?_ | refine zF ?_ | refine zH (by decide) ?_ | refine zQ ?_ | ((first | refine zC ?_ | refine zM ?_ | refine zO rfl rfl ?_ | refine zN rfl ?_ | refine zL ?_); simp only [yq129.down, zA, lemS.down, lemC.down, Int.reduceBEq, Nat.reduceAdd, Nat.reduceLeDiff, reduceIte, Nat.reduceEqDiff, Int.reduceLT, Int.reduceLE, Int.reduceGT, Int.reduceGE, Int.reduceEq, Int.reduceAdd, Int.reduceSub, Int.reduceMul, reduceCtorEq, lemH.down, lemW.down, e1, byte_cell hp, e3])))
  refine zw (fun m t g => ∃ i, m = l.length - i ∧ i ≤ l.length ∧ DigB g h.next h.next (UInt8.ofNat p :: zk (l.take i)) ∧ Grows h g ∧ t.get 5 = .pointer (some ⟨h.next, 0, none⟩) ∧ t.get 14 = .slice a l.length cap ∧ t.get 15 = .int .i64 (l.length : Int) ∧ t.get 16 = .int .i64 (i : Int)) ?_ l.length _ _ ⟨0, rfl, by omega, by simpa [zk] using d3, g3, by simp only [yq129.down, zA, lemS.down, lemC.down, Int.reduceBEq, Nat.reduceAdd, Nat.reduceLeDiff, reduceIte, Nat.reduceEqDiff, Int.reduceLT, Int.reduceLE, Int.reduceGT, Int.reduceGE, Int.reduceEq, Int.reduceAdd, Int.reduceSub, Int.reduceMul, reduceCtorEq], by simp only [yq129.down, zA, lemS.down, lemC.down, Int.reduceBEq, Nat.reduceAdd, Nat.reduceLeDiff, reduceIte, Nat.reduceEqDiff, Int.reduceLT, Int.reduceLE, Int.reduceGT, Int.reduceGE, Int.reduceEq, Int.reduceAdd, Int.reduceSub, Int.reduceMul, reduceCtorEq], by simp only [yq129.down, zA, lemS.down, lemC.down, Int.reduceBEq, Nat.reduceAdd, Nat.reduceLeDiff, reduceIte, Nat.reduceEqDiff, Int.reduceLT, Int.reduceLE, Int.reduceGT, Int.reduceGE, Int.reduceEq, Int.reduceAdd, Int.reduceSub, Int.reduceMul, reduceCtorEq], by (simp only [yq129.down, zA, lemS.down, lemC.down, Int.reduceBEq, Nat.reduceAdd, Nat.reduceLeDiff, reduceIte, Nat.reduceEqDiff, Int.reduceLT, Int.reduceLE, Int.reduceGT, Int.reduceGE, Int.reduceEq, Int.reduceAdd, Int.reduceSub, Int.reduceMul, reduceCtorEq]) <;> rfl⟩
  rintro m t g ⟨i, rfl, hi, gd, gg, t5, t14, t15, t16⟩ hnext
  refine xq129_9k ?_
  dsimp only [xq129_9b]
  (repeat (first | refine zS ?_ | refine zK ?_ | refine zR ?_ | refine zD ?_ | refine zB ?_ | refine zI ?_ | refine zJ ?_ | refine zP ?_ | refine zE ?_ | refine zG ?_ | refine zF ?_ | refine zH (by decide) ?_ | refine zQ ?_ | ((first | refine zC ?_ | refine zM ?_ | refine zO rfl rfl ?_ | refine zN rfl ?_ | refine zL ?_); simp only [yq129.down, zA, lemS.down, lemC.down, Int.reduceBEq, Nat.reduceAdd, Nat.reduceLeDiff, reduceIte, Nat.reduceEqDiff, Int.reduceLT, Int.reduceLE, Int.reduceGT, Int.reduceGE, Int.reduceEq, Int.reduceAdd, Int.reduceSub, Int.reduceMul, reduceCtorEq, lemH.down, lemW.down, t5, t14, t15, t16])))
  refine ⟨fun hlt => ?_, fun hge => ?_⟩
  · have hi' : i < l.length := by omega
    have hpl := part_le hi'
    have hpc := parts_count (l := l)
    have ww : IntKind.i64.wrap ((i : Int) + 1) = ((i + 1 : Nat) : Int) := by rw [wrap_i64 (by omega) (by omega)]; omega
    obtain ⟨B, o, ia, ld⟩ := hel i hi'
    have ld := gg.load wf ld
    have f4 := zg (h := g) hf (fourS_at (n := (l.getD i []).length) (by omega))
    obtain ⟨_, h4, e4, rfl, d4, k4⟩ := Write_B T gd (fourB (l.getD i []).length) (by simp [fourB]; omega)
    obtain ⟨_, h5, e5, rfl, d5, k5⟩ := Write_B T d4 (l.getD i []) (by omega)
    (repeat (first | refine zS ?_ | refine zK ?_ | refine zR ?_ | refine zD ?_ | refine zB ?_ | refine zI ?_ | refine zJ ?_ | refine zP ?_ | refine zE ?_ | refine zG ?_ | refine zF ?_ | refine zH (by decide) ?_ | refine zQ ?_ | ((first | refine zC ?_ | refine zM ?_ | refine zO rfl rfl ?_ | refine zN rfl ?_ | refine zL ?_); simp only [yq129.down, zA, lemS.down, lemC.down, Int.reduceBEq, Nat.reduceAdd, Nat.reduceLeDiff, reduceIte, Nat.reduceEqDiff, Int.reduceLT, Int.reduceLE, Int.reduceGT, Int.reduceGE, Int.reduceEq, Int.reduceAdd, Int.reduceSub, Int.reduceMul, reduceCtorEq, lemH.down, lemW.down, t5, t14, t15, t16, p_iaddrS, ia, ld, f4, e4, e5, ww])))
    refine hnext (l.length - (i + 1)) _ _ (by omega) ⟨i + 1, rfl, by omega, ?_, (gg.then k4 (fun A hA => by omega)).then k5 (fun A hA => by omega), by simp only [yq129.down, zA, lemS.down, lemC.down, Int.reduceBEq, Nat.reduceAdd, Nat.reduceLeDiff, reduceIte, Nat.reduceEqDiff, Int.reduceLT, Int.reduceLE, Int.reduceGT, Int.reduceGE, Int.reduceEq, Int.reduceAdd, Int.reduceSub, Int.reduceMul, reduceCtorEq, t5], by simp only [yq129.down, zA, lemS.down, lemC.down, Int.reduceBEq, Nat.reduceAdd, Nat.reduceLeDiff, reduceIte, Nat.reduceEqDiff, Int.reduceLT, Int.reduceLE, Int.reduceGT, Int.reduceGE, Int.reduceEq, Int.reduceAdd, Int.reduceSub, Int.reduceMul, reduceCtorEq, t14], by simp only [yq129.down, zA, lemS.down, lemC.down, Int.reduceBEq, Nat.reduceAdd, Nat.reduceLeDiff, reduceIte, Nat.reduceEqDiff, Int.reduceLT, Int.reduceLE, Int.reduceGT, Int.reduceGE, Int.reduceEq, Int.reduceAdd, Int.reduceSub, Int.reduceMul, reduceCtorEq, t15], by simp only [yq129.down, zA, lemS.down, lemC.down, Int.reduceBEq, Nat.reduceAdd, Nat.reduceLeDiff, reduceIte, Nat.reduceEqDiff, Int.reduceLT, Int.reduceLE, Int.reduceGT, Int.reduceGE, Int.reduceEq, Int.reduceAdd, Int.reduceSub, Int.reduceMul, reduceCtorEq]⟩
    rw [zBT hi']
    simpa using d5
  · obtain rfl : i = l.length := by omega
    rw [List.take_length] at gd
    obtain ⟨_, h6, e6, rfl, g6⟩ := Sum_B T gd
    (repeat (first | refine zS ?_ | refine zK ?_ | refine zR ?_ | refine zD ?_ | refine zB ?_ | refine zI ?_ | refine zJ ?_ | refine zP ?_ | refine zE ?_ | refine zG ?_ | refine zF ?_ | refine zH (by decide) ?_ | refine zQ ?_ | ((first | refine zC ?_ | refine zM ?_ | refine zO rfl rfl ?_ | refine zN rfl ?_ | refine zL ?_); simp only [yq129.down, zA, lemS.down, lemC.down, Int.reduceBEq, Nat.reduceAdd, Nat.reduceLeDiff, reduceIte, Nat.reduceEqDiff, Int.reduceLT, Int.reduceLE, Int.reduceGT, Int.reduceGE, Int.reduceEq, Int.reduceAdd, Int.reduceSub, Int.reduceMul, reduceCtorEq, lemH.down, lemW.down, t5, t14, t15, t16, e6])))
    exact ⟨.inr rfl, by (simp only [yq129.down, zA, lemS.down, lemC.down, Int.reduceBEq, Nat.reduceAdd, Nat.reduceLeDiff, reduceIte, Nat.reduceEqDiff, Int.reduceLT, Int.reduceLE, Int.reduceGT, Int.reduceGE, Int.reduceEq, Int.reduceAdd, Int.reduceSub, Int.reduceMul, reduceCtorEq]) <;> rfl, gg.trans g6⟩
theorem rtagged_ok (pr : Prog) (hs9 : pr.prim 205 = some (zY shaS)) (p : Nat) (hp : p < 256) (h : Heap) (wf : HWF h) (v : Value) (l : List (List UInt8)) (hs : strsAt h v = some l) (hr : (zk l).length + 1000 ≤ zX) :
    Comes pr xq168 [uw .u8 p, v] h (.string (strOf (tagged (UInt8.ofNat p) l))) := by
  apply Comes.of
  unfold xq168
  dsimp only [zh]
  have hr64 : zX = 140737488355328 := rfl
  obtain ⟨a, cap, rfl, hel⟩ := strsAt_elim hs
  have g1 : Grows h (h.new [uw .u8 p]) := Grows.new
  (repeat (first | refine zS ?_ | refine zK ?_ | refine zR ?_ | refine zD ?_ | refine zB ?_ | refine zI ?_ | refine zJ ?_ | refine zP ?_ | refine zE ?_ | refine zG ?_ | refine zF ?_ | refine zH (by decide) ?_ | refine zQ ?_ | ((first | refine zC ?_ | refine zM ?_ | refine zO rfl rfl ?_ | refine zN rfl ?_ | refine zL ?_); simp only [yq168.down, zA, lemS.down, lemC.down, Int.reduceBEq, Nat.reduceAdd, Nat.reduceLeDiff, reduceIte, Nat.reduceEqDiff, Int.reduceLT, Int.reduceLE, Int.reduceGT, Int.reduceGE, Int.reduceEq, Int.reduceAdd, Int.reduceSub, Int.reduceMul, reduceCtorEq, lemH.down, lemW.down, byte_cell hp])))
  generalize h.new [uw .u8 p] = h1 at *
  refine zw (fun m t g => ∃ i, m = l.length - i ∧ i ≤ l.length ∧ Grows h g ∧ t.get 1 = .slice a l.length cap ∧ t.get 5 = .string (strOf (UInt8.ofNat p :: zk (l.take i))) ∧ t.get 6 = .int .i64 (i : Int)) ?_ l.length _ _ ⟨0, rfl, by omega, g1, by simp only [yq168.down, zA, lemS.down, lemC.down, Int.reduceBEq, Nat.reduceAdd, Nat.reduceLeDiff, reduceIte, Nat.reduceEqDiff, Int.reduceLT, Int.reduceLE, Int.reduceGT, Int.reduceGE, Int.reduceEq, Int.reduceAdd, Int.reduceSub, Int.reduceMul, reduceCtorEq], by (simp only [yq168.down, zA, lemS.down, lemC.down, Int.reduceBEq, Nat.reduceAdd, Nat.reduceLeDiff, reduceIte, Nat.reduceEqDiff, Int.reduceLT, Int.reduceLE, Int.reduceGT, Int.reduceGE, Int.reduceEq, Int.reduceAdd, Int.reduceSub, Int.reduceMul, reduceCtorEq]) <;> rfl, by (simp only [yq168.down, zA, lemS.down, lemC.down, Int.reduceBEq, Nat.reduceAdd, Nat.reduceLeDiff, reduceIte, Nat.reduceEqDiff, Int.reduceLT, Int.reduceLE, Int.reduceGT, Int.reduceGE, Int.reduceEq, Int.reduceAdd, Int.reduceSub, Int.reduceMul, reduceCtorEq]) <;> rfl⟩
  rintro m t g ⟨i, rfl, hi, gg, t1, t5, t6⟩ hnext
  refine xq168_7k ?_
  dsimp only [xq168_7b]
  (repeat (first | refine zS ?_ | refine zK ?_ | refine zR ?_ | refine zD ?_ | refine zB ?_ | refine zI ?_ | refine zJ ?_ | refine zP ?_ | refine zE ?_ | refine zG ?_ | refine zF ?_ | refine zH (by decide) ?_ | refine zQ ?_ | ((first | refine zC ?_ | refine zM ?_ | refine zO rfl rfl ?_ | refine zN rfl ?_ | refine zL ?_); simp only [yq168.down, zA, lemS.down, lemC.down, Int.reduceBEq, Nat.reduceAdd, Nat.reduceLeDiff, reduceIte, Nat.reduceEqDiff, Int.reduceLT, Int.reduceLE, Int.reduceGT, Int.reduceGE, Int.reduceEq, Int.reduceAdd, Int.reduceSub, Int.reduceMul, reduceCtorEq, lemH.down, lemW.down, t1, t5, t6])))
  have hple : (zk (l.take i)).length ≤ (zk l).length := by
    have h2 : zk l = zk (l.take i) ++ zk (l.drop i) := by
      unfold zk; rw [← List.flatMap_append, List.take_append_drop]
    rw [h2]; simp
  refine ⟨fun hlt => ?_, fun hge => ?_⟩
  · have hi' : i < l.length := by omega
    have hpl := part_le hi'
    have hpc := parts_count (l := l)
    have ww : IntKind.i64.wrap ((i : Int) + 1) = ((i + 1 : Nat) : Int) := by rw [wrap_i64 (by omega) (by omega)]; omega
    obtain ⟨B, o, ia, ld⟩ := hel i hi'
    have ld0 := gg.load wf ld
    have q24 := quo_nat (k := .i64) (a := (l.getD i []).length) (b := 16777216) (by decide)
    have q16 := quo_nat (k := .i64) (a := (l.getD i []).length) (b := 65536) (by decide)
    have q8 := quo_nat (k := .i64) (a := (l.getD i []).length) (b := 256) (by decide)
    rw [wrap_i64 (by omega) (by omega)] at q24 q16 q8
    simp only [Int.cast_ofNat_Int] at q24 q16 q8
    have c := fun n => uw_cint (k := .u8) (k' := .i64) u8_signed (n := n)
    have hO := Own.newSlice (h := g) (l := zV (fourB (l.getD i []).length)) (n := 4) (esz := 1) (sp := none) (by rw [zBQ]; rfl) (.inl rfl)
    have hb := hO.cb2s
    have ld2 := (gg.trans (Grows.new (l := zV (fourB (l.getD i []).length)))).load wf ld
    rw [zBQ] at hb ld2
    have fl : ∀ n, (fourB n).length = 4 := fun _ => rfl
    have cat1 := bin_cat (a := fourB (l.getD i []).length) (b := l.getD i []) (by rw [fl]; omega)
    have cat2 := bin_cat (a := UInt8.ofNat p :: zk (l.take i)) (b := fourB (l.getD i []).length ++ l.getD i []) (by
      have h3 : (zk (l.take i)).length + 4 + (l.getD i []).length ≤ (zk l).length := by
        have h2 : zk l = zk (l.take (i + 1)) ++ zk (l.drop (i + 1)) := by
          unfold zk; rw [← List.flatMap_append, List.take_append_drop]
        rw [h2, zBT hi', List.length_append, List.length_append, List.length_append, fl]
        omega
      rw [List.length_append, List.length_cons, fl]; omega)
    (repeat (first | refine zS ?_ | refine zK ?_ | refine zR ?_ | refine zD ?_ | refine zB ?_ | refine zI ?_ | refine zJ ?_ | refine zP ?_ | refine zE ?_ | refine zG ?_ | refine zF ?_ | refine zH (by decide) ?_ | refine zQ ?_ | ((first | refine zC ?_ | refine zM ?_ | refine zO rfl rfl ?_ | refine zN rfl ?_ | refine zL ?_); simp only [yq168.down, zA, lemS.down, lemC.down, Int.reduceBEq, Nat.reduceAdd, Nat.reduceLeDiff, reduceIte, Nat.reduceEqDiff, Int.reduceLT, Int.reduceLE, Int.reduceGT, Int.reduceGE, Int.reduceEq, Int.reduceAdd, Int.reduceSub, Int.reduceMul, reduceCtorEq, lemH.down, lemW.down, t1, t5, t6, p_iaddrS, ia, ld0, q24, q16, q8, c, fill4', hb, ld2, cat1, cat2, ww])))
    refine hnext (l.length - (i + 1)) _ _ (by omega) ⟨i + 1, rfl, by omega, gg.trans Grows.new, by simp only [yq168.down, zA, lemS.down, lemC.down, Int.reduceBEq, Nat.reduceAdd, Nat.reduceLeDiff, reduceIte, Nat.reduceEqDiff, Int.reduceLT, Int.reduceLE, Int.reduceGT, Int.reduceGE, Int.reduceEq, Int.reduceAdd, Int.reduceSub, Int.reduceMul, reduceCtorEq, t1], ?_, by simp only [yq168.down, zA, lemS.down, lemC.down, Int.reduceBEq, Nat.reduceAdd, Nat.reduceLeDiff, reduceIte, Nat.reduceEqDiff, Int.reduceLT, Int.reduceLE, Int.reduceGT, Int.reduceGE, Int.reduceEq, Int.reduceAdd, Int.reduceSub, Int.reduceMul, reduceCtorEq]⟩
    simp only [yq168.down, zA, lemS.down, lemC.down, Int.reduceBEq, Nat.reduceAdd, Nat.reduceLeDiff, reduceIte, Nat.reduceEqDiff, Int.reduceLT, Int.reduceLE, Int.reduceGT, Int.reduceGE, Int.reduceEq, Int.reduceAdd, Int.reduceSub, Int.reduceMul, reduceCtorEq]
    rw [zBT hi']
    simp
  · obtain rfl : i = l.length := by omega
    rw [List.take_length] at t5
    have sm := zg (h := g) hs9 (shaS_at (s := UInt8.ofNat p :: zk l) (by simp; omega))
    (repeat (first | refine zS ?_ | refine zK ?_ | refine zR ?_ | refine zD ?_ | refine zB ?_ | refine zI ?_ | refine zJ ?_ | refine zP ?_ | refine zE ?_ | refine zG ?_ | refine zF ?_ | refine zH (by decide) ?_ | refine zQ ?_ | ((first | refine zC ?_ | refine zM ?_ | refine zO rfl rfl ?_ | refine zN rfl ?_ | refine zL ?_); simp only [yq168.down, zA, lemS.down, lemC.down, Int.reduceBEq, Nat.reduceAdd, Nat.reduceLeDiff, reduceIte, Nat.reduceEqDiff, Int.reduceLT, Int.reduceLE, Int.reduceGT, Int.reduceGE, Int.reduceEq, Int.reduceAdd, Int.reduceSub, Int.reduceMul, reduceCtorEq, lemH.down, lemW.down, t1, t5, t6, sm])))
    exact ⟨.inr rfl, by (simp only [yq168.down, zA, lemS.down, lemC.down, Int.reduceBEq, Nat.reduceAdd, Nat.reduceLeDiff, reduceIte, Nat.reduceEqDiff, Int.reduceLT, Int.reduceLE, Int.reduceGT, Int.reduceGE, Int.reduceEq, Int.reduceAdd, Int.reduceSub, Int.reduceMul, reduceCtorEq]) <;> rfl, gg⟩
end Go.X
end
section
open Go Go.X Go.Proofs Go.RowKit
namespace Go.X
set_option linter.unusedVariables false
theorem Tab.read {P : Program} {l : List (Nat × Prim)} (ok : XOK P (Tab P l)) {f : Nat} {fn : Func} {F : XF} (hf : P.funcs[f]? = some fn) (hF : zj P fn = some F) {g : Prim}
    (hg : ∀ args h v h', g args h = some (v, h') → h' = h ∧ args.length = F.nargs ∧ zp v = true ∧ ∀ n, HWF (h.at n) → Comes (Tab P l) F args (h.at n) v) : XOK P (Tab P ((f, g) :: l)) := by
  refine Tab.cons ok fun args h v h' hr => ?_
  obtain ⟨rfl, h2, h3, h4⟩ := hg args h v h' hr
  exact ⟨callable_of hf hF, Nat.le_refl _, zBX ok hf hF h2 (fun _ _ _ _ _ _ => ⟨v, flat_rel h3⟩) fun n _ wf => h4 n wf⟩
theorem fourS_ok {args : List Value} {v : Value} (h : fourS args = some v) : args.length = 1 ∧ zp v = true ∧ ∀ pr h, Comes pr xq174 args h v := by
  unfold fourS at h
  split at h
  · rename_i n
    split at h
    · rename_i hc
      cases h
      refine ⟨rfl, rfl, fun pr h => ?_⟩
      have := four_ok pr n.toNat (by omega) h
      rw [show (n.toNat : Int) = n by omega] at this
      exact this
    · cases h
  · cases h
theorem zAv {args : List Value} {h : Heap} {v : Value} {h' : Heap} (hr : taggedG args h = some (v, h')) : h' = h ∧ args.length = 2 ∧ zp v = true ∧ (∀ pr n, ShaTab pr → pr.prim 174 = some (zY fourS) → HWF (h.at n) → Comes pr xq129 args (h.at n) v) ∧ (∀ pr n, pr.prim 205 = some (zY shaS) → HWF (h.at n) → Comes pr xq168 args (h.at n) v) := by
  unfold taggedG at hr
  split at hr
  · rename_i p w
    split at hr
    · rename_i l hl
      split at hr
      · rename_i hc
        cases hr
        obtain ⟨q, rfl⟩ : ∃ q : Nat, p = (q : Int) := ⟨p.toNat, by omega⟩
        have e : Value.int .u8 (q : Int) = uw .u8 q := nat_u8 (by omega)
        rw [Int.toNat_natCast, e]
        refine ⟨rfl, rfl, rfl, fun pr n T h4 wf => ?_, fun pr n h9 wf => ?_⟩
        · exact tagged_ok pr T h4 q (by omega) _ wf w l hl hc.2.2
        · exact rtagged_ok pr h9 q (by omega) _ wf w l hl hc.2.2
      · cases hr
    · cases hr
  · cases hr
def R1 : List (Nat × Prim) := (174, zY fourS) :: T15
def R2 : List (Nat × Prim) := (129, taggedG) :: R1
def R3 : List (Nat × Prim) := (168, taggedG) :: R2
theorem rk1 : XOK Tryz.prog (Tab Tryz.prog R1) := Tab.pure ok15 Tryz.func174 cq174 fun args v h => ⟨(fourS_ok h).1, (fourS_ok h).2.1, fun g => (fourS_ok h).2.2 _ g⟩
theorem shaR1 : ShaTab (Tab Tryz.prog R1) := ⟨rfl, rfl, rfl, rfl, rfl, codeAt Tryz.func208 cq208, rfl, codeAt Tryz.func172 cq172, rfl, codeAt Tryz.func173 cq173, rfl, codeAt Tryz.func175 cq175⟩
theorem rk2 : XOK Tryz.prog (Tab Tryz.prog R2) := Tab.read rk1 Tryz.func129 cq129 fun args h v h' hr => ⟨(zAv hr).1, (zAv hr).2.1, (zAv hr).2.2.1, fun n wf => (zAv hr).2.2.2.1 _ n shaR1 rfl wf⟩
theorem rk3 : XOK Tryz.prog (Tab Tryz.prog R3) := Tab.read rk2 Tryz.func168 cq168 fun args h v h' hr => ⟨(zAv hr).1, (zAv hr).2.1, (zAv hr).2.2.1, fun n wf => (zAv hr).2.2.2.2 _ n rfl wf⟩
end Go.X
end
section
open Go Go.Proofs Go.RowKit Go.Lib
namespace Go.X
set_option linter.unusedVariables false
theorem zBV {P : Program} (w : World) (dT sT ty elem : TypeId) (e b o dLen dCap : Nat) (a : Addr) (sLen sCap : Nat) (cs : List Value)
    (hu : P.underlying dT = some (.slice elem)) (hs : (P.info? elem).map (·.size) = some e) (hn : cs.length = Nat.min sLen dLen * e)
    (hsrc : ∀ j v, cs[j]? = some v → w.cell? (a.add j) = some v) (hc : ∀ j, j < cs.length → (w.cell? ⟨b, o + j, none⟩).isSome = true) (hf : ∀ j, j < cs.length → w.frozen? ⟨b, o + j, none⟩ = false) (h1 : ∀ v ∈ cs, v.oneCell' = true) :
    (Builtin.copy_ #[dT, sT] ty #[.slice (some ⟨b, o, none⟩) dLen dCap, .slice (some a) sLen sCap]).run P w = .ok (goInt (Nat.min sLen dLen)) (w.setCells b o cs) := by
  have hl := run_loadCells_list (P := P) w a cs hsrc
  have hst := run_storeCells_cells (P := P) b o cs 0 w (by simpa using hc) (by simpa using hf) h1
  cases hq : P.info? elem with
  | none => simp [hq] at hs
  | some i =>
    have hi : i.size = e := by simpa [hq] using hs
    simp [Builtin.copy_, run_underlying hu, Builtin.lenOf, Builtin.firstCells, sizeOf, typeInfo, hq, hi, ← hn, hl, hst]
theorem infoTag : (Tryz.prog.info? 218).map (fun i => (i.zero, i.size, i.bytes)) = some (some (.agg #[.int .i64 0, .string ⟨#[]⟩]), 2, 24) := by kernel_rfl
theorem sizeTag (w : World) : (Go.sizeOf 218).run Tryz.prog w = .ok 2 w := by
  obtain ⟨i, hi, _, h2, _⟩ := info_parts infoTag
  simp [Go.sizeOf, typeInfo, hi, h2]
set_option maxHeartbeats 4000000 in
set_option maxRecDepth 100000 in
theorem insTag_shift (b off n c i vb voff m vc : Nat) (cs vs : List Value) (w : World) (hi : i < n) (hm : 0 < m) (hroom : n + m ≤ c) (hc63 : n + m ≤ 9223372036854775807) (hvb : vb ≠ b)
    (hcl : cs.length = n * 2) (hvl : vs.length = m * 2)
    (hcs : ∀ j v, cs[j]? = some v → w.cell? ⟨b, off + j, none⟩ = some v) (hsp : ∀ j, j < (n + m) * 2 → (w.cell? ⟨b, off + j, none⟩).isSome = true) (hfz : ∀ j, j < (n + m) * 2 → w.frozen? ⟨b, off + j, none⟩ = false)
    (hvs : ∀ j v, vs[j]? = some v → w.cell? ⟨vb, voff + j, none⟩ = some v) (h1c : ∀ v ∈ cs.drop (i * 2), v.oneCell' = true) (h1v : ∀ v ∈ vs, v.oneCell' = true)
    (tA tB : TypeId) (kA kB : Nat) (hsa : w.shape? vb = some (tA, kA)) (hsb : w.shape? b = some (tB, kB)) (hkB : kB ≠ 0) (hfa : w.frozen? ⟨vb, voff, none⟩ = false) (hfe : w.frozen? ⟨vb, kA, none⟩ = false) :
    Calls Tryz.prog 196 #[.slice (some ⟨b, off, none⟩) n c, .int .i64 i, .slice (some ⟨vb, voff, none⟩) m vc] w fun e w' =>
      e = .returned (.slice (some ⟨b, off, none⟩) (n + m) c) ∧ w' = (w.drew.setCells b (off + (i + m) * 2) (cs.drop (i * 2))).setCells b (off + i * 2) vs := by
  have hz1 : ¬ ((m : Int) = 0) := by omega
  have hz2 : ¬ ((i : Int) = (n : Int)) := by omega
  have hsz : (Tryz.prog.info? 218).map (·.size) = some 2 := by kernel_rfl
  have hz2s : ∀ w : World, (Go.sizeOf 218).run Tryz.prog w = .ok 2 w := sizeTag
  have hov : ∀ lb cb, (callFunc 220 #[.slice (some ⟨vb, voff, none⟩) m vc, .slice (some ⟨b, off + (i + m) * 2, none⟩) lb cb]).run Tryz.prog w = .ok (.value (.bool false)) w := fun lb cb => by
    rw [run_callFunc_extern Tryz.func220 (by kernel_rfl) (by kernel_rfl) (by kernel_rfl) (e := Extern.SlicesOverlaps.overlaps #[72, 72] #[4]) (by kernel_rfl),
      Lib.run_overlaps_apart w 72 4 218 Tryz.underlying72 2 hz2s ⟨vb, voff, none⟩ ⟨b, off + (i + m) * 2, none⟩ m vc lb cb hvb tA tB kA kB hsa hsb hkB hfa hfe]
    rfl
  have hdl : (cs.drop (i * 2)).length = (n - i) * 2 := by rw [List.length_drop, hcl]; omega
  have mixed : Tryz.prog.follows .mixedOrders = true := by kernel_rfl
  have hw1 : IntKind.i64.wrap ((i : Int) + (m : Int)) = (i : Int) + (m : Int) := by rw [IntKind.wrap_i64]; omega
  have hb1 : (0 : Int) ≤ (i : Int) + (m : Int) := by omega
  have hin : i ≤ n := by omega
  have htn : ((i : Int) + (m : Int)).toNat = i + m := by omega
  have hb2 : ¬ (c = i + m) := by omega
  have hb3 : (i : Int) ≤ (n : Int) + (m : Int) := by omega
  have hb4 : ¬ (c = i) := by omega
  have hcp1 : ∀ ty dc sc, (Builtin.copy_ #[72, 72] ty #[.slice (some ⟨b, off + (i + m) * 2, none⟩) (n + m - (i + m)) dc, .slice (some ⟨b, off + i * 2, none⟩) (n + m - i) sc]).run Tryz.prog w.drew = .ok (goInt (Nat.min (n + m - i) (n + m - (i + m)))) (w.drew.setCells b (off + (i + m) * 2) (cs.drop (i * 2))) := fun ty dc sc =>
    zBV w.drew _ _ ty 218 2 b (off + (i + m) * 2) (n + m - (i + m)) dc ⟨b, off + i * 2, none⟩ (n + m - i) sc (cs.drop (i * 2)) Tryz.underlying72 hsz (by rw [hdl]; simp only [Nat.min_def]; split <;> omega)
      (fun j v hj => by rw [Addr.add_lit, Nat.add_assoc]; exact hcs (i * 2 + j) v (by rwa [List.getElem?_drop] at hj))
      (fun j hj => by rw [Nat.add_assoc]; exact hsp _ (by omega)) (fun j hj => by rw [Nat.add_assoc]; exact hfz _ (by omega)) h1c
  obtain ⟨W1, hW1⟩ : ∃ W1, W1 = w.drew.setCells b (off + (i + m) * 2) (cs.drop (i * 2)) := ⟨_, rfl⟩
  have hsp1 : ∀ k, k < (n + m) * 2 → (W1.cell? ⟨b, off + k, none⟩).isSome = true := fun k hk => by
    rw [hW1]
    exact isSome_setCells b _ _ _ (fun j hj => by rw [Nat.add_assoc]; exact hsp _ (by omega)) _ (hsp k hk)
  have hcp2 : ∀ (W : World), (∀ x, W.cell? x = W1.cell? x) → (∀ x, W.frozen? x = W1.frozen? x) → ∀ ty dc, (Builtin.copy_ #[72, 72] ty #[.slice (some ⟨b, off + i * 2, none⟩) (n + m - i) dc, .slice (some ⟨vb, voff, none⟩) m vc]).run Tryz.prog W = .ok (goInt (Nat.min m (n + m - i))) (W.setCells b (off + i * 2) vs) := fun W hWc hWf ty dc =>
    zBV W _ _ ty 218 2 b (off + i * 2) (n + m - i) dc ⟨vb, voff, none⟩ m vc vs Tryz.underlying72 hsz (by rw [hvl]; simp only [Nat.min_def]; split <;> omega)
      (fun j v hj => by
        rw [Addr.add_lit, hWc, hW1, World.cell?_setCells_out b _ _ _ _ (fun h _ => absurd h hvb)]
        exact hvs j v hj)
      (fun j hj => by rw [hWc, Nat.add_assoc]; exact hsp1 _ (by omega)) (fun j hj => by rw [hWf, hW1, World.frozen?_setCells, Nat.add_assoc]; exact hfz _ (by omega)) h1v
  rw [← hW1] at hcp1
  have u77 := run_underlying Tryz.underlying72
  go_enter Tryz.func196, Tryz.ntmps196
  go_wp2_with (simp only [hov])
  go_region_law_o (refine step_copy_runI rfl _ _ 72 72 rfl _ _ (by simp [Act.eval, Act.put]) (by simp [Act.eval, Act.put]) (hcp1 _ _ _) ?_)
  go_wp2_with (at_builtin; refine wpList_copy_runI _ rfl _ _ 72 72 rfl _ _ rfl rfl (hcp2 _ (fun _ => rfl) (fun _ => rfl) _ _) ?_)
  go_ret
  first | exact ⟨rfl, rfl⟩ | exact ⟨rfl, by rw [hW1]⟩
set_option maxHeartbeats 4000000 in
set_option maxRecDepth 100000 in
theorem insTag_grow (b off n c i vb voff m vc : Nat) (cs vs : List Value) (w : World) (hi : i < n) (hm : 0 < m) (hnc : n ≤ c) (hroom : c < n + m) (hbig : (n + m) * 24 ≤ 140737488355328)
    (hcl : cs.length = n * 2) (hvl : vs.length = m * 2)
    (hcs : ∀ j v, cs[j]? = some v → w.cell? ⟨b, off + j, none⟩ = some v)
    (hvs : ∀ j v, vs[j]? = some v → w.cell? ⟨vb, voff + j, none⟩ = some v) (h1c : ∀ v ∈ cs.drop (i * 2), v.oneCell' = true) (h1v : ∀ v ∈ vs, v.oneCell' = true) :
    Calls Tryz.prog 196 #[.slice (some ⟨b, off, none⟩) n c, .int .i64 i, .slice (some ⟨vb, voff, none⟩) m vc] w fun e w' =>
      e = .returned (.slice (some ⟨w.heap.size, 0, none⟩) (n + m) (grownCap w (n + m) c 218)) ∧
      w' = (((w.alloc (.cells ((cs.take (i * 2)).toArray ++ Builtin.zeroCells (Value.agg #[.int .i64 0, .string ⟨#[]⟩]).cells (n + m - i) ++ Builtin.zeroCells (Value.agg #[.int .i64 0, .string ⟨#[]⟩]).cells (grownCap w (n + m) c 218 - (n + m))) 218)).drew.setCells w.heap.size (i * 2) vs).drew).setCells w.heap.size ((i + m) * 2) (cs.drop (i * 2)) := by
  have mixed : Tryz.prog.follows .mixedOrders = true := by kernel_rfl
  obtain ⟨i0, hi0, hz0, hzs, hzb⟩ := info_parts infoTag
  have hz1 : ¬ ((m : Int) = 0) := by omega
  have hz2 : ¬ ((i : Int) = (n : Int)) := by omega
  have hz3 : (c : Int) < (n : Int) + (m : Int) := by omega
  have hsz : (Tryz.prog.info? 218).map (·.size) = some 2 := by rw [hi0]; simp [hzs]
  have u77 := run_underlying Tryz.underlying72
  have hbw : b < w.heap.size := block_lt_of_cell (hcs 0 _ (List.getElem?_eq_getElem (by omega)))
  have hvw : vb < w.heap.size := block_lt_of_cell (hvs 0 _ (List.getElem?_eq_getElem (by omega)))
  have hkk : (n : Int) + (m : Int) - (i : Int) = ((n + m - i : Nat) : Int) := by omega
  have hik : i + (n + m - i) = n + m := by omega
  have hold : (Builtin.firstCells i0.size i (.slice (some ⟨b, off, none⟩) i c)).run Tryz.prog w.drew = .ok (cs.take (i * 2)).toArray w.drew := by
    rw [hzs]
    exact run_firstCells_some w.drew 2 i ⟨b, off, none⟩ i c (cs.take (i * 2)) (by rw [List.length_take]; omega) (fun j v hj => by
      rw [Addr.add_lit]
      rw [List.getElem?_take] at hj
      split at hj
      · exact hcs j v hj
      · cases hj)
  have hrz : ∀ ty, (Builtin.append_ #[72, 3] ty #[.slice (some ⟨b, off, none⟩) i c, .int .i64 ((n : Int) + (m : Int) - (i : Int))]).run Tryz.prog w =
      .ok (.slice (some ⟨w.heap.size, 0, none⟩) (n + m) (grownCap w (n + m) c 218)) (w.drew.alloc (.cells ((cs.take (i * 2)).toArray ++ Builtin.zeroCells (Value.agg #[.int .i64 0, .string ⟨#[]⟩]).cells (n + m - i) ++ Builtin.zeroCells (Value.agg #[.int .i64 0, .string ⟨#[]⟩]).cells (grownCap w (n + m) c 218 - (n + m))) 218)) := fun ty => by
    have h := Lib.run_append_grow_zeros w 72 3 ty 218 i0 _ .i64 .i64 Tryz.underlying72 Tryz.underlying3 hi0 hz0 (some ⟨b, off, none⟩) i c (cs.take (i * 2)) hold (n + m - i) (by omega) (by omega) (by omega) (by omega) (by rw [hzb]; omega) (by rw [hzb, hik]; exact growslice_fits hroom hbig)
    rw [hik] at h
    rw [hkk]
    exact h
  obtain ⟨G, hG⟩ : ∃ G, G = grownCap w (n + m) c 218 := ⟨_, rfl⟩
  obtain ⟨ROW, hROW⟩ : ∃ ROW : Array Value, ROW = (cs.take (i * 2)).toArray ++ Builtin.zeroCells (Value.agg #[.int .i64 0, .string ⟨#[]⟩]).cells (n + m - i) ++ Builtin.zeroCells (Value.agg #[.int .i64 0, .string ⟨#[]⟩]).cells (G - (n + m)) := ⟨_, rfl⟩
  rw [← hG] at hrz ⊢
  rw [← hROW] at hrz ⊢
  have hRl : (n + m) * 2 ≤ ROW.size := by
    rw [hROW]
    simp [Builtin.zeroCells, Value.cells]
    omega
  obtain ⟨W1, hW1⟩ : ∃ W1, W1 = w.drew.alloc (.cells ROW 218) := ⟨_, rfl⟩
  rw [← hW1] at hrz
  have hN : ∀ j, j < (n + m) * 2 → (W1.cell? ⟨w.heap.size, j, none⟩).isSome = true := fun j hj => by
    rw [hW1, World.cell?_alloc_at (w := w.drew) ROW _ w.heap.size j rfl, Array.getElem?_eq_getElem (by omega)]; rfl
  have hNf : ∀ j, W1.frozen? ⟨w.heap.size, j, none⟩ = false := fun j => by rw [hW1]; exact World.frozen?_alloc_at (w := w.drew) ROW _ w.heap.size j rfl
  have hOb : ∀ j v, w.cell? ⟨b, j, none⟩ = some v → W1.cell? ⟨b, j, none⟩ = some v := fun j v h => by rw [hW1, World.cell?_alloc_past (w := w.drew) _ b j hbw]; exact h
  have hOv : ∀ j v, w.cell? ⟨vb, j, none⟩ = some v → W1.cell? ⟨vb, j, none⟩ = some v := fun j v h => by rw [hW1, World.cell?_alloc_past (w := w.drew) _ vb j hvw]; exact h
  have hcpA : ∀ (W : World), (∀ x, W.cell? x = W1.cell? x) → (∀ x, W.frozen? x = W1.frozen? x) → ∀ ty dc, (Builtin.copy_ #[72, 72] ty #[.slice (some ⟨w.heap.size, i * 2, none⟩) (n + m - i) dc, .slice (some ⟨vb, voff, none⟩) m vc]).run Tryz.prog W = .ok (goInt (Nat.min m (n + m - i))) (W.setCells w.heap.size (i * 2) vs) := fun W hWc hWf ty dc =>
    zBV W _ _ ty 218 2 w.heap.size (i * 2) (n + m - i) dc ⟨vb, voff, none⟩ m vc vs Tryz.underlying72 hsz (by rw [hvl]; simp only [Nat.min_def]; split <;> omega)
      (fun j v hj => by rw [Addr.add_lit, hWc]; exact hOv _ v (hvs j v hj))
      (fun j hj => by rw [hWc]; exact hN _ (by omega)) (fun j hj => by rw [hWf]; exact hNf _) h1v
  have hGn : n + m ≤ G := by rw [hG]; exact grownCap_ge w _ _ _
  have hG63 : G ≤ 9223372036854775807 := by
    have := grownCap_le_maxLen w (n + m) c 218 (by unfold maxLen; omega)
    rw [← hG] at this
    unfold maxLen at this
    omega
  have hGi : ¬ (G = i) := by omega
  have hGim : ¬ (G = i + m) := by omega
  have hci : ¬ (c = i) := by omega
  have hbN : b ≠ w.heap.size := by omega
  have hdl : (cs.drop (i * 2)).length = (n - i) * 2 := by rw [List.length_drop, hcl]; omega
  have hcpB : ∀ (W : World), (∀ x, W.cell? x = (W1.setCells w.heap.size (i * 2) vs).cell? x) → (∀ x, W.frozen? x = (W1.setCells w.heap.size (i * 2) vs).frozen? x) → ∀ ty dc sc, (Builtin.copy_ #[72, 72] ty #[.slice (some ⟨w.heap.size, (i + m) * 2, none⟩) (n + m - (i + m)) dc, .slice (some ⟨b, off + i * 2, none⟩) (n - i) sc]).run Tryz.prog W = .ok (goInt (Nat.min (n - i) (n + m - (i + m)))) (W.setCells w.heap.size ((i + m) * 2) (cs.drop (i * 2))) := fun W hWc hWf ty dc sc =>
    zBV W _ _ ty 218 2 w.heap.size ((i + m) * 2) (n + m - (i + m)) dc ⟨b, off + i * 2, none⟩ (n - i) sc (cs.drop (i * 2)) Tryz.underlying72 hsz (by rw [hdl]; simp only [Nat.min_def]; split <;> omega)
      (fun j v hj => by
        rw [Addr.add_lit, hWc, World.cell?_setCells_out _ _ _ _ _ (fun h _ => absurd h hbN), Nat.add_assoc]
        exact hOb _ v (hcs (i * 2 + j) v (by rwa [List.getElem?_drop] at hj)))
      (fun j hj => by rw [hWc]; exact isSome_setCells _ _ _ _ (fun t ht => hN _ (by omega)) _ (hN _ (by omega)))
      (fun j hj => by rw [hWf, World.frozen?_setCells]; exact hNf _) h1c
  subst hW1
  have hE1 : ∀ x, ((w.alloc (.cells ROW 218)).drew).cell? x = (w.drew.alloc (.cells ROW 218)).cell? x := fun x => rfl
  have hE2 : ∀ x, ((w.alloc (.cells ROW 218)).drew).frozen? x = (w.drew.alloc (.cells ROW 218)).frozen? x := fun x => rfl
  have hF1 : ∀ x, (((w.alloc (.cells ROW 218)).drew.setCells w.heap.size (i * 2) vs).drew).cell? x = ((w.drew.alloc (.cells ROW 218)).setCells w.heap.size (i * 2) vs).cell? x := fun x => rfl
  have hF2 : ∀ x, (((w.alloc (.cells ROW 218)).drew.setCells w.heap.size (i * 2) vs).drew).frozen? x = ((w.drew.alloc (.cells ROW 218)).setCells w.heap.size (i * 2) vs).frozen? x := fun x => rfl
  have hw1 : IntKind.i64.wrap ((i : Int) + (m : Int)) = (i : Int) + (m : Int) := by rw [IntKind.wrap_i64]; omega
  have hb1 : (0 : Int) ≤ (i : Int) + (m : Int) := by omega
  have hin : i ≤ n := by omega
  have htn : ((i : Int) + (m : Int)).toNat = i + m := by omega
  have hb3 : (i : Int) ≤ (n : Int) := by omega
  clear hkk hik hold hROW hG hRl
  go_enter Tryz.func196, Tryz.ntmps196
  go_wp2_with (first
    | (at_builtin; refine Lib.wpList_append_run _ rfl _ _ _ _ rfl _ _ rfl rfl _ _ (hrz _) ?_)
    | (at_builtin; refine wpList_copy_runI _ rfl _ _ 72 72 rfl _ _ rfl rfl (hcpA _ hE1 hE2 _ _) ?_)
    | (at_builtin; refine wpList_copy_runI _ rfl _ _ 72 72 rfl _ _ rfl rfl (hcpB _ (fun _ => rfl) (fun _ => rfl) _ _ _) ?_))
  go_region_law_o (refine step_copy_runI rfl _ _ 72 72 rfl (.slice (some ⟨w.heap.size, (i + m) * 2, none⟩) (n + m - (i + m)) (G - (i + m))) (.slice (some ⟨b, off + i * 2, none⟩) (n - i) (c - i)) (by simp [Act.eval, Act.put]) (by simp [Act.eval, Act.put]) (hcpB _ hF1 hF2 3 (G - (i + m)) (c - i)) ?_)
  go_wp2
  go_ret
  exact ⟨rfl, rfl⟩
set_option maxHeartbeats 4000000 in
set_option maxRecDepth 100000 in
theorem insTag_end (base : Option Addr) (n c m vc : Nat) (va : Option Addr) (v : Value) (w w' : World) (hm : 0 < m) (hnc : n ≤ c) (hnil : base = none → n = 0)
    (hrun : (Builtin.append_ #[72, 72] 72 #[.slice base n c, .slice va m vc]).run Tryz.prog w = .ok v w') :
    Calls Tryz.prog 196 #[.slice base n c, .int .i64 n, .slice va m vc] w fun e w1 => e = .returned v ∧ w1 = w' := by
  have hz1 : ¬ ((m : Int) = 0) := by omega
  have u77 := run_underlying Tryz.underlying72
  go_enter Tryz.func196, Tryz.ntmps196
  cases base with
  | none =>
    have h0 := hnil rfl
    subst h0
    go_wp2_with (at_builtin; refine Lib.wpList_append_run _ rfl _ _ _ _ rfl _ _ rfl rfl _ _ hrun ?_)
    go_ret
    exact ⟨rfl, rfl⟩
  | some a =>
    obtain ⟨ab, ao, asp⟩ := a
    go_wp2_with (at_builtin; refine Lib.wpList_append_run _ rfl _ _ _ _ rfl _ _ rfl rfl _ _ hrun ?_)
    all_goals (go_ret; exact ⟨rfl, rfl⟩)
end Go.X
end
section
open Go Go.X Go.Proofs Go.RowKit
namespace Go.X
theorem insTagFn : InsFn Tryz.prog 196 72 218 2 24 (.agg #[.int .i64 0, .string ⟨#[]⟩]) where
  call := ⟨_, Tryz.func196, by decide +kernel, by kernel_rfl⟩
  und := Tryz.underlying72
  info := infoTag
  zero := by kernel_rfl
  size := by kernel_rfl
  bytes := by kernel_rfl
  zlen := rfl
  by0 := by decide
  sz0 := by decide
  end_ := insTag_end
  shift := insTag_shift
  grow := insTag_grow
end Go.X
end
section
open Go Go.X Go.Proofs Go.RowKit
namespace Go.X
set_option linter.unusedVariables false
def isV (v : Value) : Option (Value × Heap) → Bool
  | some (x, _) => zi x v
  | none => false
theorem isV_some {v : Value} {r : Option (Value × Heap)} (h : isV v r = true) : ∃ h', r = some (v, h') := by
  unfold isV at h
  split at h
  · rename_i x g
    exact ⟨g, by rw [sameV_eq h]⟩
  · cases h
def Z1 : List (Nat × Prim) := (196, insertG 2 24) :: R3
theorem zk1 : XOK Tryz.prog (Tab Tryz.prog Z1) := Tab.cons rk3 fun args h v h' hr => ⟨insTagFn.call, insertG_next hr, insertG_ok insTagFn hr⟩
def Z2 : List (Nat × Prim) := tabM Z1
theorem zk2 : XOK Tryz.prog (Tab Tryz.prog Z2) := okM zk1
end Go.X
end
section
open Go Go.X Go.Proofs Go.RowKit
namespace Go.X
set_option linter.unusedVariables false
def inHeap (n : Nat) : Heap := ⟨n, .leaf, .leaf⟩
theorem hrel_in {P : Program} {w : World} (k : Nat) (ρ : Ren) (hk : ∀ A, k ≤ A → ρ A = none) (hL : ∀ A l, ρ A = some l → l.b < w.heap.size) : HRel P w.heap.size ρ (inHeap k) w ∧ HWF (inHeap k) := by
  have hb : ∀ A, (inHeap k).blks.get A = none := fun A => PT.get_leaf A
  have hok : ∀ A c, ¬ (inHeap k).okCells A = some c := fun A c h => by have := (okCells_iff.1 h).1; rw [hb] at this; cases this
  refine ⟨⟨Nat.le_refl _, hL, fun A c h => (by rw [hb] at h; cases h), fun A c l h => absurd h (hok A c), fun A B c d l m _ h => absurd h (hok A c), fun A l es h => (by rw [hb] at h; cases h), fun A B es fs l m _ h => (by rw [hb] at h; cases h), ⟨k, hk⟩, fun A c f l h => absurd h (hok A c),
    ⟨fun A l r h => (by rw [hb] at h; cases h), fun A B r s l m _ h => (by rw [hb] at h; cases h), fun A l ⟨c, h, _⟩ => (by rw [hb] at h; cases h), fun A l es es' cl h => (by rw [hb] at h; cases h)⟩⟩,
    ⟨fun A _ => ⟨hb A, PT.get_leaf A⟩, fun A c h => (by rw [hb] at h; cases h), fun A c f h => absurd h (hok A c)⟩⟩
theorem calls_of_run {P : Program} {Pg : Prog} (ok : XOK P Pg) {n f k : Nat} {args args' : List Value} {v : Value} {h' : Heap} {ρ : Ren} {w : World} (hk : ∀ A, k ≤ A → ρ A = none) (hL : ∀ A l, ρ A = some l → l.b < w.heap.size) (ha : LRel ρ args args') (hv : zp v = true) (hc : call Pg n f args (inHeap k) = some (v, h')) :
    Calls P f args'.toArray w fun e w' => e = .returned v ∧ Below w.heap.size w w' := by
  obtain ⟨hr, wf⟩ := hrel_in (P := P) k ρ hk hL
  obtain ⟨_, _, h4⟩ := (call_cfok ok n).fn f args (inHeap k) v h' hc
  refine (h4 w.heap.size ρ w args' hr wf (fun A hA _ => hk A hA) ha).mono fun e w' hq => ?_
  obtain ⟨v', ρ', rfl, q1, q2, q3, q4⟩ := hq
  exact ⟨by rw [flat_eq hv q4], q3.below⟩
def InSlice (w : World) (sv : Value) : Prop := sv = .slice none 0 0 ∨ ∃ a len cap, sv = .slice (some a) len cap ∧ a.spot = none ∧ len ≤ cap ∧ a.block < w.heap.size
def sliceAs (A : Nat) : Value → Value
  | .slice (some a) len cap => .slice (some ⟨A, a.off, none⟩) len cap
  | v => v
def locOf : Value → Option Loc
  | .slice (some a) _ _ => some ⟨a.block, 0, 0⟩
  | _ => none
theorem InSlice.loc {w : World} {sv : Value} (h : InSlice w sv) {l : Loc} (hl : locOf sv = some l) : l.b < w.heap.size := by
  rcases h with rfl | ⟨a, len, cap, rfl, hsp, hle, hb⟩
  · cases hl
  · cases hl; exact hb
theorem InSlice.rel {w : World} {sv : Value} (h : InSlice w sv) {ρ : Ren} {A : Nat} (hA : ρ A = locOf sv) : VRel ρ (sliceAs A sv) sv := by
  rcases h with rfl | ⟨⟨b, o, sp⟩, len, cap, rfl, hsp, hle, hb⟩
  · exact .nilslice
  · obtain rfl : sp = none := hsp
    exact VRel.slice (l := ⟨b, 0, 0⟩) hA hle (Nat.le_refl _) (fun _ => by simp) (fun _ => rfl) (fun q hq => by cases hq)
theorem InSlice.form {w : World} {sv : Value} (h : InSlice w sv) (A : Nat) : ∃ a len cap, sliceAs A sv = .slice a len cap := by
  rcases h with rfl | ⟨a, len, cap, rfl, _⟩
  · exact ⟨none, 0, 0, rfl⟩
  · exact ⟨_, _, _, rfl⟩
theorem open_cells {P : Program} {W : World} {t : TypeId} {fs : Array Field} {ts : List TypeId} {base : Nat} {x : Value} (ht : P.underlying t = some (.struct fs)) (hc : P.cellsOf t = ts.length) (hcs : P.cellTypes P.depth t = some ts) (h : Value.okWide P W .any base t x) :
    ∃ cs : List Value, x = .agg cs.toArray ∧ All2 (fun u v => Cell.okWide P W .any base u v) ts cs := by
  simp only [Value.okWide, ht] at h
  obtain ⟨cs, rfl, hs, ts', h1, _, h3⟩ := h
  rw [hcs] at h1
  obtain rfl := Option.some.inj h1
  refine ⟨cs.toList, by simp, All2.of_get (by simp [hs, hc]) fun i h1 h2 => ?_⟩
  have e : cs[i]? = some (cs.toList[i]) := by rw [← Array.getElem?_toList, List.getElem?_eq_getElem h2]
  obtain ⟨u, hu, g⟩ := h3 i _ e
  rw [Nat.mod_eq_of_lt h1, List.getElem?_eq_getElem h1] at hu
  cases hu
  exact g
theorem cell_int {P : Program} {W : World} {u : TypeId} {k : IntKind} {base : Nat} {y : Value} (hu : P.underlying u = some (.int k)) (g : Cell.okWide P W .any base u y) : ∃ a, y = .int k a := by
  simp only [Cell.okWide, hu] at g
  cases y <;> simp_all [Cell.ok]
theorem cell_str {P : Program} {W : World} {u : TypeId} {base : Nat} {y : Value} (hu : P.underlying u = some .string) (g : Cell.okWide P W .any base u y) : ∃ a, y = .string a := by
  simp only [Cell.okWide, hu] at g
  cases y <;> simp_all [Cell.ok]
theorem cell_bool {P : Program} {W : World} {u : TypeId} {base : Nat} {y : Value} (hu : P.underlying u = some .bool) (g : Cell.okWide P W .any base u y) : ∃ a, y = .bool a := by
  simp only [Cell.okWide, hu] at g
  cases y <;> simp_all [Cell.ok]
theorem cell_slice {P : Program} {W : World} {u el : TypeId} {base : Nat} {y : Value} (hu : P.underlying u = some (.slice el)) (g : Cell.okWide P W .any base u y) : InSlice W y := by
  simp only [Cell.okWide, hu] at g
  cases y
  case slice a len cap =>
    cases a with
    | none =>
      cases len <;> cases cap <;> simp only [Cell.ok, hu] at g
      exact .inl rfl
    | some a =>
      simp only [Cell.ok, hu, World.has] at g
      obtain ⟨hle, _, _, hsp, row, cells, hsh, _⟩ := g
      refine .inr ⟨a, len, cap, rfl, hsp, hle, ?_⟩
      unfold World.shape? at hsh
      split at hsh
      · rename_i c elem fz hb
        exact (Array.getElem?_eq_some_iff.1 hb).1
      · cases hsh
  all_goals simp [Cell.ok, hu] at g
end Go.X
end
