/- The laws of tags, the table of what is told. -/
import Derived.Shelf.Strings.Repeat
import Derived.Test.YtmhkcnibbodjnaaProg
import Derived.Test.YtmhkcnibbodjnaaXC
import Derived.Test.YtmhkcnibbodjnaaXD
import Derived.Test.YtmhkcnibbodjnaaXE
import Derived.Test.YtmhkcnibbodjnaaXH
set_option linter.unusedSimpArgs false
set_option linter.unusedVariables false
set_option maxHeartbeats 2000000
section
open Go Go.X
namespace Go.X
set_option linter.unusedVariables false
def trueS : List Value → Option Value
  | [] => some (.bool true)
  | _ => none
theorem keyN_ok (pr : Prog) (i : Int) (h : Heap) : Comes pr xq23 [.pointer none, .int .i64 i] h (.tuple #[.string (zB []), .bool false]) := by
  apply Comes.of
  unfold xq23
  dsimp only [zc]
  (repeat (first | refine zS ?_ | refine zL ?_ | refine zR ?_ | refine zE ?_ | refine zC ?_ | refine zJ ?_ | refine zK ?_ | refine zP ?_ | refine zF ?_ | refine zH ?_ | refine zG ?_ | refine zI (by decide) ?_ | refine zQ ?_ | ((first | refine zD ?_ | refine zN ?_ | refine zT rfl rfl ?_ | refine zO rfl ?_ | refine zM ?_); simp only [yq23.down, zA, lemS.down, lemC.down, Int.reduceBEq, Nat.reduceAdd, Nat.reduceLeDiff, reduceIte, Nat.reduceEqDiff, Int.reduceLT, Int.reduceLE, Int.reduceGT, Int.reduceGE, Int.reduceEq, Int.reduceAdd, Int.reduceSub, Int.reduceMul, reduceCtorEq, zB1])))
  exact ⟨.inr rfl, by simp only [yq23.down, zA, lemS.down, lemC.down, Int.reduceBEq, Nat.reduceAdd, Nat.reduceLeDiff, reduceIte, Nat.reduceEqDiff, Int.reduceLT, Int.reduceLE, Int.reduceGT, Int.reduceGE, Int.reduceEq, Int.reduceAdd, Int.reduceSub, Int.reduceMul, reduceCtorEq], Grows.refl h⟩
theorem lenN_ok (pr : Prog) (h : Heap) : Comes pr xq25 [.pointer none] h (.int .i64 0) := by
  apply Comes.of
  unfold xq25
  dsimp only [zc]
  (repeat (first | refine zS ?_ | refine zL ?_ | refine zR ?_ | refine zE ?_ | refine zC ?_ | refine zJ ?_ | refine zK ?_ | refine zP ?_ | refine zF ?_ | refine zH ?_ | refine zG ?_ | refine zI (by decide) ?_ | refine zQ ?_ | ((first | refine zD ?_ | refine zN ?_ | refine zT rfl rfl ?_ | refine zO rfl ?_ | refine zM ?_); simp only [yq25.down, zA, lemS.down, lemC.down, Int.reduceBEq, Nat.reduceAdd, Nat.reduceLeDiff, reduceIte, Nat.reduceEqDiff, Int.reduceLT, Int.reduceLE, Int.reduceGT, Int.reduceGE, Int.reduceEq, Int.reduceAdd, Int.reduceSub, Int.reduceMul, reduceCtorEq, zB1])))
  exact ⟨.inr rfl, by simp only [yq25.down, zA, lemS.down, lemC.down, Int.reduceBEq, Nat.reduceAdd, Nat.reduceLeDiff, reduceIte, Nat.reduceEqDiff, Int.reduceLT, Int.reduceLE, Int.reduceGT, Int.reduceGE, Int.reduceEq, Int.reduceAdd, Int.reduceSub, Int.reduceMul, reduceCtorEq], Grows.refl h⟩
end Go.X
end
section
open Go Go.X Go.Proofs Go.RowKit
namespace Go.X
set_option linter.unusedVariables false
theorem mixed : Try.prog.follows .mixedOrders = true := by kernel_rfl
theorem zW {P : Program} {l : List (Nat × Prim)} {f : Nat} {fn : Func} {F : XF} (hf : P.funcs[f]? = some fn) (hF : zb P fn = some F) : (Tab P l).code f = some F := by
  simp only [Tab, hf, Option.bind_some, hF]
theorem zV8 {h : Heap} {a : Addr} {n : Nat} {l : List Value} (hl : h.loadN a n = some l) : l.length = n := by
  unfold Heap.loadN at hl
  split at hl
  · rename_i c hc
    unfold zAo at hl
    cases hb : (a.off + n).ble c.cells.length with
    | false => rw [hb] at hl; cases hl
    | true =>
      rw [hb] at hl
      cases hl
      have := Nat.le_of_ble_eq_true hb
      simp; omega
  · cases hl
theorem Tab.words {P : Program} {l : List (Nat × Prim)} (ok : XOK P (Tab P l)) {f : Nat} {fn : Func} (hf : P.funcs[f]? = some fn) (hF : zb P fn = some xq117) (hp : (Tab P l).prim 118 = some (za zA9)) : XOK P (Tab P ((f, zBu) :: l)) := by
  refine Tab.cons ok fun args h v h' hr => ?_
  unfold zBu at hr
  split at hr
  · rename_i a cap
    split at hr
    · rename_i cs hcs
      split at hr
      · rename_i bs hbs
        cases hr
        refine ⟨zFx hf hF, Nat.le_refl _, zFy ok hf hF rfl (fun _ _ _ _ _ _ => ⟨_, zCm (v := .agg _) ?_⟩) fun n hn wf => ?_⟩
        · show ((List.map (uw IntKind.u32) _).toArray.toList.all zAK) = true
          rw [List.all_eq_true]
          intro x hx
          simp only [List.mem_map] at hx
          obtain ⟨y, _, rfl⟩ := hx
          rfl
        · have hld : ∀ j, j < 64 → (h.at n).load ⟨a.block, a.off + j, none⟩ = some (uw .u8 (bs.getD j 0).toNat) := by
            intro j hj
            obtain rfl := zIw hbs
            have hlen : (zV bs).length = 64 := zV8 hcs
            rw [zBz] at hlen
            exact zEI (show (h.at n).loadN a 64 = some (zV bs) from hcs) (zF0 (by omega))
          exact words_ok (Tab P l) hp (h.at n) wf a cap _ (fun j => (bs.getD j 0).toNat_lt) hld
      · cases hr
    · cases hr
  · cases hr
end Go.X
namespace Go.X
set_option linter.unusedVariables false
theorem zGr {args : List Value} {v : Value} (h : zCz args = some v) : args.length = 2 ∧ zr v = true ∧ ∀ pr h, Comes pr xq126 args h v := by
  unfold zCz at h
  split at h
  · rename_i a n
    split at h
    · rename_i hc
      cases h
      refine ⟨rfl, rfl, fun pr h => ?_⟩
      have := rotl_ok pr a.toNat (-n).toNat h (by omega) (by omega)
      rw [show -((-n).toNat : Int) = n by omega] at this
      have e : uw .u32 a.toNat = .int .u32 a := by unfold uw; rw [zBg, Nat.mod_eq_of_lt (by omega)]; congr 1; omega
      rw [e] at this
      exact this
    · cases h
  · cases h
theorem zGm {args : List Value} {v : Value} (h : zA9 args = some v) : args.length = 2 ∧ zr v = true ∧ ∀ pr h, pr.prim 126 = some (za zCz) → Comes pr xq118 args h v := by
  unfold zA9 at h
  split at h
  · rename_i a n
    split at h
    · rename_i hc
      cases h
      refine ⟨rfl, rfl, fun pr h hp => ?_⟩
      have := right_ok pr hp a.toNat n.toNat h (by omega)
      rw [show (n.toNat : Int) = n by omega] at this
      have e : uw .u32 a.toNat = .int .u32 a := by unfold uw; rw [zBg, Nat.mod_eq_of_lt (by omega)]; congr 1; omega
      rw [e] at this
      exact this
    · cases h
  · cases h
theorem zHC {args : List Value} {v : Value} (h : zBs args = some v) : args.length = 2 ∧ zr v = true ∧ ∀ pr h, Comes pr xq62 args h v := by
  unfold zBs at h
  split at h
  · rename_i a n
    split at h
    · rename_i hc
      cases h
      refine ⟨rfl, rfl, fun pr h => ?_⟩
      have := turn_ok pr a.toNat n.toNat h (by omega)
      rw [show (n.toNat : Int) = n by omega] at this
      have e : uw .u32 a.toNat = .int .u32 a := by unfold uw; rw [zBg, Nat.mod_eq_of_lt (by omega)]; congr 1; omega
      rw [e] at this
      exact this
    · cases h
  · cases h
theorem zA3 (s : ByteArray) : zB s.data.toList = s := zCZ s
theorem zDd {args : List Value} {v : Value} (h : shaS args = some v) : args.length = 1 ∧ zr v = true ∧ (∀ pr h, zBv pr → Comes pr xq59 args h v) ∧ (∀ pr h, pr.prim 62 = some (za zBs) → pr.prim 61 = some (za zEY) → Comes pr xq18 args h v) := by
  unfold shaS at h
  split at h
  · rename_i s
    split at h
    · rename_i hc
      cases h
      refine ⟨rfl, rfl, fun pr h T => ?_, fun pr h h1 h2 => ?_⟩
      · have := zW5 pr T s.data.toList hc h
        rwa [zA3] at this
      · have := zWb pr h1 h2 s.data.toList hc h
        rwa [zA3] at this
    · cases h
  · cases h
theorem zGj {args : List Value} {v : Value} (h : padS args = some v) : args.length = 2 ∧ zr v = true ∧ ∀ pr h, pr.prim 59 = some (za shaS) → pr.prim 88 = some (za zCx) → Comes pr xq60 args h v := by
  unfold padS at h
  split at h
  · rename_i k b
    split at h
    · rename_i hc
      cases h
      refine ⟨rfl, rfl, fun pr h h1 h2 => ?_⟩
      have := pad_ok pr h1 h2 k.data.toList (UInt8.ofNat b.toNat) hc.1 h
      rw [zA3] at this
      have e : uw .u8 (UInt8.ofNat b.toNat).toNat = .int .u8 b := by
        rw [zFU, UInt8.toNat_ofNat']
        congr 1; omega
      rw [e] at this
      exact this
    · cases h
  · cases h
theorem zDg {args : List Value} {v : Value} (h : tagS args = some v) : args.length = 2 ∧ zr v = true ∧ (∀ pr h, pr.prim 59 = some (za shaS) → pr.prim 60 = some (za padS) → Comes pr xq17 args h v) ∧ (∀ pr h, pr.prim 18 = some (za shaS) → Comes pr xq19 args h v) := by
  unfold tagS at h
  split at h
  · rename_i k s
    split at h
    · rename_i hc
      cases h
      refine ⟨rfl, rfl, fun pr h h1 h2 => ?_, fun pr h h1 => ?_⟩
      · have := tag_ok pr h1 h2 k.data.toList s.data.toList hc.1 hc.2 h
        rwa [zA3, zA3] at this
      · have := zWd pr h1 k.data.toList s.data.toList hc.1 hc.2 h
        rwa [zA3, zA3] at this
    · cases h
  · cases h
theorem zGx {args : List Value} {v : Value} (h : zC0 args = some v) : args.length = 2 ∧ zr v = true ∧ ∀ pr h, Comes pr xq63 args h v := by
  unfold zC0 at h
  split at h
  · rename_i a b
    split at h
    · rename_i hc
      cases h
      refine ⟨rfl, rfl, fun pr h => ?_⟩
      have := same_ok pr a.data.toList b.data.toList hc h
      rwa [zA3, zA3] at this
    · cases h
  · cases h
theorem zF4 {args : List Value} {v : Value} (h : zCh args = some v) : args.length = 3 ∧ zr v = true ∧ ∀ pr h, pr.prim 63 = some (za zC0) → pr.prim 17 = some (za tagS) → Comes pr xq20 args h v := by
  unfold zCh at h
  split at h
  · rename_i k s t
    split at h
    · rename_i hc
      cases h
      refine ⟨rfl, rfl, fun pr h h1 h2 => ?_⟩
      have := check_ok pr h1 h2 k.data.toList s.data.toList t.data.toList hc.1 hc.2 h
      rwa [zA3, zA3, zA3] at this
    · cases h
  · cases h
theorem zE5 {args : List Value} {v w : Value} {s : List Value → Option Value} (hs : ∀ a l, s (a :: l) = none) (hw : s [] = some w) (h : s args = some v) : args = [] ∧ v = w := by
  cases args with
  | nil => rw [hw] at h; exact ⟨rfl, (Option.some.inj h).symm⟩
  | cons a l => rw [hs] at h; cases h
theorem zUq {P : Program} {f : Nat} {args : List Value} {v : Value} (ha : args.all zr = true) (hv : zr v = true) (hc : ∀ w, Calls P f args.toArray w fun e w' => e = .returned v ∧ Below w.heap.size w w') (h : Heap) : zB8 P f args h v h := by
  intro base ρ w args' hr wf hpre hargs
  have e : args' = args := by
    clear hr hpre hc
    induction hargs with
    | nil => rfl
    | cons h1 _ ih =>
      simp only [List.all_cons, Bool.and_eq_true] at ha
      rw [zEs ha.1 h1, ih ha.2]
  subst e
  refine (hc w).mono fun e w' hq => ?_
  obtain ⟨rfl, q3⟩ := hq
  exact ⟨_, ρ, rfl, hr.below q3, wf, ⟨fun _ _ h => h, fun _ h => absurd rfl h, Nat.le_refl _, fun _ _ h => h, fun _ _ _ => ⟨rfl, rfl⟩, q3.mono hr.le, fun r h1 _ => q3.block r h1, fun A l h1 h2 => by rw [h1] at h2; cases h2⟩, zCm hv⟩
theorem Tab.below {P : Program} {l : List (Nat × Prim)} (ok : XOK P (Tab P l)) {f : Nat} (hcall : zB9 P f) {s : List Value → Option Value}
    (hs : ∀ args v, s args = some v → args.all zr = true ∧ zr v = true ∧ ∀ w, Calls P f args.toArray w fun e w' => e = .returned v ∧ Below w.heap.size w w') : XOK P (Tab P ((f, za s) :: l)) := by
  refine Tab.cons ok fun args h v h' hr => ?_
  unfold za at hr
  split at hr
  · rename_i v1 hv
    cases hr
    obtain ⟨h1, h2, h3⟩ := hs args v hv
    exact ⟨hcall, Nat.le_refl _, zUq h1 h2 h3 h⟩
  · cases hr
end Go.X
end
section
namespace Go.Proofs
open Go.Shelf
def Try.lays105_ren : Go.Shelf.Ren := ⟨fun | 105 => 88 | 212 => 105 | 99 => 106 | 165 => 107 | 166 => 108 | 170 => 109 | 169 => 110 | 263 => 119 | 264 => 120 | 206 => 121 | 240 => 122 | 241 => 123 | 276 => 127 | 277 => 128 | n => n, fun | 9 => 9 | 3 => 3 | 4 => 4 | 20 => 20 | 0 => 0 | 46 => 81 | 109 => 141 | 5 => 5 | 72 => 145 | 76 => 148 | 51 => 96 | 146 => 156 | 53 => 53 | 148 => 158 | 70 => 143 | 37 => 42 | 75 => 147 | 127 => 160 | 164 => 163 | 80 => 88 | n => n, fun | n => n⟩
theorem Try.lays105 : Go.Proofs.Lays.n105 Try.prog Try.lays105_ren := {
  mixed := by kernel_rfl
  f99 := Try.func106.trans (congrArg some (by kernel_rfl))
  f105 := Try.func88.trans (congrArg some (by kernel_rfl))
  f165 := Try.func107.trans (congrArg some (by kernel_rfl))
  f166 := Try.func108.trans (congrArg some (by kernel_rfl))
  f169 := Try.func110.trans (congrArg some (by kernel_rfl))
  f170 := Try.func109.trans (congrArg some (by kernel_rfl))
  f206 := Try.func121.trans (congrArg some (by kernel_rfl))
  f212 := Try.func105.trans (congrArg some (by kernel_rfl))
  f240 := Try.func122.trans (congrArg some (by kernel_rfl))
  f241 := Try.func123.trans (congrArg some (by kernel_rfl))
  f263 := Try.func119.trans (congrArg some (by kernel_rfl))
  f264 := Try.func120.trans (congrArg some (by kernel_rfl))
  f276 := Try.func127.trans (congrArg some (by kernel_rfl))
  f277 := Try.func128.trans (congrArg some (by kernel_rfl))
  t0 := Try.underlying0
  a0 := Try.isAgg0
  z0 := Try.sizeOf0
  v0 := Try.zeroValue0
  t3 := Try.underlying3
  a3 := Try.isAgg3
  z3 := Try.sizeOf3
  v3 := Try.zeroValue3
  t4 := Try.underlying4
  a4 := Try.isAgg4
  z4 := Try.sizeOf4
  v4 := Try.zeroValue4
  t5 := Try.underlying5
  a5 := Try.isAgg5
  z5 := Try.sizeOf5
  v5 := Try.zeroValue5
  t9 := Try.underlying9
  a9 := Try.isAgg9
  z9 := Try.sizeOf9
  v9 := Try.zeroValue9
  t20 := Try.underlying20
  a20 := Try.isAgg20
  z20 := Try.sizeOf20
  v20 := Try.zeroValue20
  t37 := Try.underlying42
  a37 := Try.isAgg42
  z37 := Try.sizeOf42
  v37 := Try.zeroValue42
  t46 := Try.underlying81
  a46 := Try.isAgg81
  z46 := Try.sizeOf81
  v46 := Try.zeroValue81
  t51 := Try.underlying96
  a51 := Try.isAgg96
  z51 := Try.sizeOf96
  v51 := Try.zeroValue96
  t53 := Try.underlying53
  a53 := Try.isAgg53
  z53 := Try.sizeOf53
  v53 := Try.zeroValue53
  t70 := Try.underlying143
  a70 := Try.isAgg143
  z70 := Try.sizeOf143
  v70 := Try.zeroValue143
  t72 := Try.underlying145
  a72 := Try.isAgg145
  z72 := Try.sizeOf145
  v72 := Try.zeroValue145
  t75 := Try.underlying147
  a75 := Try.isAgg147
  z75 := Try.sizeOf147
  v75 := Try.zeroValue147
  t76 := Try.underlying148
  a76 := Try.isAgg148
  z76 := Try.sizeOf148
  v76 := Try.zeroValue148
  t109 := Try.underlying141
  a109 := Try.isAgg141
  z109 := Try.sizeOf141
  v109 := Try.zeroValue141
  t127 := Try.underlying160
  a127 := Try.isAgg160
  z127 := Try.sizeOf160
  v127 := Try.zeroValue160
  t146 := Try.underlying156
  a146 := Try.isAgg156
  z146 := Try.sizeOf156
  v146 := Try.zeroValue156
  t148 := Try.underlying158
  a148 := Try.isAgg158
  z148 := Try.sizeOf158
  v148 := Try.zeroValue158
  t164 := Try.underlying163
  a164 := Try.isAgg163
  z164 := Try.sizeOf163
  v164 := Try.zeroValue163 }
theorem Try.Builder_Extra_105 : Builder.Extra Try.prog Try.lays105_ren := {
  sizeBuilder := by kernel_rfl
  liesBuilder := by kernel_rfl
  t5 := Try.underlying5
  a5 := Try.isAgg5
  z5 := Try.sizeOf5
  v5 := Try.zeroValue5
  infoByte := by kernel_rfl
  cellsByte := by kernel_rfl
  sizeByte := by kernel_rfl
  neB5 := by decide }
open Go.RowKit Go.Lib in
theorem Try.strings_Repeat (s : ByteArray) (c : Nat) (w : World) (hc : c ≤ 9223372036854775807) (hlen : s.size * c ≤ 140737488355328) :
    Calls Try.prog 88 #[.string s, .int .i64 c] w fun e w' => e = .returned (.string ⟨(Lib.repeatL s.data.toList c).toArray⟩) ∧ Below w.heap.size w w' := Any.strings_Repeat Try.lays105 Try.Builder_Extra_105 s c w hc hlen
end Go.Proofs
end
section
open Go Go.X Go.Proofs Go.RowKit
namespace Go.X
set_option linter.unusedVariables false
theorem zWf {args : List Value} {v : Value} (h : zCx args = some v) : args.all zr = true ∧ zr v = true ∧ ∀ w, Calls Try.prog 88 args.toArray w fun e w' => e = .returned v ∧ Below w.heap.size w w' := by
  unfold zCx at h
  split at h
  · rename_i s c
    split at h
    · rename_i hc
      cases h
      refine ⟨rfl, rfl, fun w => ?_⟩
      have hr64 : zU = 140737488355328 := rfl
      have := Try.strings_Repeat s c.toNat w (by omega) (by rw [Lib.size_eq]; omega)
      rw [show (c.toNat : Int) = c by omega] at this
      have e : Lib.repeatL s.data.toList c.toNat = (List.replicate c.toNat s.data.toList).flatten := by
        generalize c.toNat = n
        induction n with
        | zero => rfl
        | succ n ih => simp only [Lib.repeatL, ih, List.replicate_succ, List.flatten_cons]
      rw [e] at this
      exact this
    · cases h
  · cases h
def T1 : List (Nat × Prim) := [(126, za zCz)]
def T2 : List (Nat × Prim) := (118, za zA9) :: T1
def T3 : List (Nat × Prim) := (117, zBu) :: T2
def T4 : List (Nat × Prim) := (116, za zCH) :: T3
def T5 : List (Nat × Prim) := (103, za zDu) :: T4
def T6 : List (Nat × Prim) := (59, za shaS) :: T5
def T7 : List (Nat × Prim) := (62, za zBs) :: T6
def T8 : List (Nat × Prim) := (61, za zEY) :: T7
def T9 : List (Nat × Prim) := (18, za shaS) :: T8
def T10 : List (Nat × Prim) := (88, za zCx) :: T9
def T11 : List (Nat × Prim) := (60, za padS) :: T10
def T12 : List (Nat × Prim) := (17, za tagS) :: T11
def T13 : List (Nat × Prim) := (19, za tagS) :: T12
def T14 : List (Nat × Prim) := (63, za zC0) :: T13
def T15 : List (Nat × Prim) := (20, za zCh) :: T14
theorem ok1 : XOK Try.prog (Tab Try.prog T1) := Tab.pure (Tab.nil mixed) Try.func126 cq126 fun args v h => ⟨(zGr h).1, (zGr h).2.1, fun g => (zGr h).2.2 _ g⟩
theorem ok2 : XOK Try.prog (Tab Try.prog T2) := Tab.pure ok1 Try.func118 cq118 fun args v h => ⟨(zGm h).1, (zGm h).2.1, fun g => (zGm h).2.2 _ g rfl⟩
theorem ok3 : XOK Try.prog (Tab Try.prog T3) := Tab.words ok2 Try.func117 cq117 rfl
theorem ok4 : XOK Try.prog (Tab Try.prog T4) := Tab.pure ok3 Try.func116 cq116 fun args v h => by
  obtain ⟨rfl, rfl⟩ := zE5 (s := zCH) (fun _ _ => rfl) rfl h
  exact ⟨rfl, by kernel_rfl, fun g => zVO _ g⟩
theorem ok5 : XOK Try.prog (Tab Try.prog T5) := Tab.pure ok4 Try.func103 cq103 fun args v h => by
  obtain ⟨rfl, rfl⟩ := zE5 (s := zDu) (fun _ _ => rfl) rfl h
  exact ⟨rfl, by kernel_rfl, fun g => begin_ok _ g⟩
theorem sha5 : zBv (Tab Try.prog T5) := ⟨rfl, rfl, rfl, rfl, rfl, zW Try.func104 cq104, rfl, zW Try.func85 cq85, rfl, zW Try.func86 cq86, rfl, zW Try.func87 cq87⟩
theorem ok6 : XOK Try.prog (Tab Try.prog T6) := Tab.pure ok5 Try.func59 cq59 fun args v h => ⟨(zDd h).1, (zDd h).2.1, fun g => (zDd h).2.2.1 _ g sha5⟩
theorem ok7 : XOK Try.prog (Tab Try.prog T7) := Tab.pure ok6 Try.func62 cq62 fun args v h => ⟨(zHC h).1, (zHC h).2.1, fun g => (zHC h).2.2 _ g⟩
theorem ok8 : XOK Try.prog (Tab Try.prog T8) := Tab.pure ok7 Try.func61 cq61 fun args v h => by
  obtain ⟨rfl, rfl⟩ := zE5 (s := zEY) (fun _ _ => rfl) rfl h
  exact ⟨rfl, by kernel_rfl, fun g => table_ok _ g⟩
theorem ok9 : XOK Try.prog (Tab Try.prog T9) := Tab.pure ok8 Try.func18 cq18 fun args v h => ⟨(zDd h).1, (zDd h).2.1, fun g => (zDd h).2.2.2 _ g rfl rfl⟩
theorem ok10 : XOK Try.prog (Tab Try.prog T10) := Tab.below ok9 ⟨_, Try.func88, by decide +kernel, by kernel_rfl⟩ fun args v h => zWf h
theorem ok11 : XOK Try.prog (Tab Try.prog T11) := Tab.pure ok10 Try.func60 cq60 fun args v h => ⟨(zGj h).1, (zGj h).2.1, fun g => (zGj h).2.2 _ g rfl rfl⟩
theorem ok12 : XOK Try.prog (Tab Try.prog T12) := Tab.pure ok11 Try.func17 cq17 fun args v h => ⟨(zDg h).1, (zDg h).2.1, fun g => (zDg h).2.2.1 _ g rfl rfl⟩
theorem ok13 : XOK Try.prog (Tab Try.prog T13) := Tab.pure ok12 Try.func19 cq19 fun args v h => ⟨(zDg h).1, (zDg h).2.1, fun g => (zDg h).2.2.2 _ g rfl⟩
theorem ok14 : XOK Try.prog (Tab Try.prog T14) := Tab.pure ok13 Try.func63 cq63 fun args v h => ⟨(zGx h).1, (zGx h).2.1, fun g => (zGx h).2.2 _ g⟩
theorem ok15 : XOK Try.prog (Tab Try.prog T15) := Tab.pure ok14 Try.func20 cq20 fun args v h => ⟨(zF4 h).1, (zF4 h).2.1, fun g => (zF4 h).2.2 _ g rfl rfl⟩
end Go.X
end
