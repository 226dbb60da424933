/- Numbers, texts and digests written and read. -/
import Derived.Test.YtmhkcnibbodjnaaProg
import Derived.KernelRfl
import Derived.Test.YtmhkcnibbodjnaaXC
import Derived.Test.YtmhkcnibbodjnaaXJ
set_option linter.unusedSimpArgs false
set_option linter.unusedVariables false
set_option maxHeartbeats 2000000
section
namespace Go.X
set_option linter.unusedVariables false
/-!
  Regions whose order is drawn, with reads that are checked at places ahead of the making of what they read.
-/
section
variable {pr : Prog} {full : List XO} {cs : List (Nat × Nat × List Nat)} {i : Nat} {tr : List (Fr × Heap)} {K : Fr → Heap → Prop} {t : Fr} {h : Heap}
theorem withPend_more {l : List XO} {p q : List (Fr × Heap)} : ∀ {pend : List Nat} {h : Heap}, (∀ m ∈ pend, m < p.length) → withPend l (p ++ q) pend h = withPend l p pend h
  | [], h, _ => rfl
  | i :: is, h, hm => by
    have ih := withPend_more (l := l) (p := p) (q := q) (pend := is) (h := h) (fun m hm' => hm m (List.mem_cons_of_mem _ hm'))
    have e : (p ++ q)[i]? = p[i]? := List.getElem?_append_left (hm i List.mem_cons_self)
    simp only [withPend, e, ih]
theorem checkAt_moreP {l : List XO} {p q : List (Fr × Heap)} {j k : Nat} {pend : List Nat} (hm : ∀ m ∈ pend, m < p.length) (hc : checkAt l p j k pend = true) : checkAt l (p ++ q) j k pend = true := by
  unfold checkAt at *
  split at hc
  · rename_i o t h t' h' h1 h2 h3
    have e2 : (p ++ q)[j]? = some (t, h) := by rw [List.getElem?_append_left (List.getElem?_eq_some_iff.1 h2).1]; exact h2
    have e3 : (p ++ q)[k]? = some (t', h') := by rw [List.getElem?_append_left (List.getElem?_eq_some_iff.1 h3).1]; exact h3
    rw [h1, e2, e3]
    simp only [withPend_more hm]
    exact hc
  · cases hc
theorem wpd_traceP (hp : ∀ c ∈ cs, ∀ m ∈ c.2.2, m < max c.1 c.2.1) : ∀ {l : List XO} {i : Nat} {tr : List (Fr × Heap)} {t : Fr} {h : Heap}, tr.length = i → wpd pr full cs i tr l K t h →
    ∃ tr2 t' h', opsT (cfi pr) l t h = some tr2 ∧ tr2.getLast? = some (t', h') ∧ K t' h' ∧ tr2.length = l.length + 1 ∧
      ∀ c ∈ cs, i ≤ max c.1 c.2.1 → max c.1 c.2.1 ≤ i + l.length → checkAt full (tr.reverse ++ tr2) c.1 c.2.1 c.2.2 = true
  | [], i, tr, t, h, hi, ⟨h1, h2⟩ => by
    refine ⟨[(t, h)], t, h, rfl, rfl, h2, rfl, fun c hc g1 g2 => ?_⟩
    have := chkd_at h1 hc (by simp at g2; omega)
    simpa using this
  | x :: l, i, tr, t, h, hi, ⟨h1, r, h2, h3⟩ => by
    obtain ⟨tr2, t', h', a1, a2, a3, a4, a5⟩ := wpd_traceP hp (i := i + 1) (tr := (t, h) :: tr) (by simp [hi]) h3
    refine ⟨(t, h) :: tr2, t', h', ?_, ?_, a3, by simp [a4], fun c hc g1 g2 => ?_⟩
    · obtain ⟨v, h4⟩ := r
      simp only [opsT, h2]
      simp only at a1
      rw [a1]
    · cases tr2 with
      | nil => simp at a4
      | cons q tr2 => simpa using a2
    · by_cases hk : max c.1 c.2.1 = i
      · have := chkd_at h1 hc (by omega)
        have h5 := checkAt_moreP (q := tr2) (fun m hm => by have := hp c hc m hm; simp; omega) this
        simpa using h5
      · have := a5 c hc (by omega) (by simp at g2 ⊢; omega)
        simpa using this
def inAllP (n : Nat) (cs : List (Nat × Nat × List Nat)) : Bool := cs.all fun c => (c.2.2.all fun m => Nat.blt m c.1) && (Nat.ble c.1 n && Nat.ble c.2.1 n)
theorem wpk_drawP {k : List KI} {Q : XE → Fr → Heap → Prop} {l : List XO} (hp : inAllP l.length cs = true) (hw : wpd pr l cs 0 [] l (kont pr k Q) t h) : wpk pr (.draw l cs) k Q t h := by
  unfold inAllP at hp
  rw [List.all_eq_true] at hp
  have hp1 : ∀ c ∈ cs, ∀ m ∈ c.2.2, m < max c.1 c.2.1 := fun c hc m hm => by
    have := hp c hc
    simp only [Bool.and_eq_true, List.all_eq_true] at this
    have := Nat.le_of_ble_eq_true (this.1 m hm)
    omega
  obtain ⟨tr, t', h', h1, h2, h3, h4, h5⟩ := wpd_traceP hp1 (i := 0) (tr := []) rfl hw
  obtain ⟨n, hn⟩ := opsT_cfi h1
  refine ⟨.normal, t', h', ⟨n + 1, ?_⟩, h3.out⟩
  have hchk : checksX l tr cs = true := by
    unfold checksX
    rw [List.all_eq_true]
    intro c hc
    have := hp c hc
    simp only [Bool.and_eq_true] at this
    have b1 := Nat.le_of_ble_eq_true this.2.1
    have b2 := Nat.le_of_ble_eq_true this.2.2
    have := h5 c hc (by omega) (by omega)
    simpa using this
  simp only [run, hn n (Nat.le_refl n), hchk, cond_true, h2]
/-- a read of a block that one operation makes, checked ahead of its making -/
theorem checkAt_one {l : List XO} {tr : List (Fr × Heap)} {j k m : Nat} {d d1 : Option Nat} {op : ROp} {ao : AOp} {t t' t1 : Fr} {h h' h1 : Heap} {b : NBlk} {mk : Mk} {v : Value}
    (e1 : l[j]? = some ⟨d, .r op, none⟩) (e2 : tr[j]? = some (t, h)) (e3 : tr[k]? = some (t', h')) (e4 : l[m]? = some ⟨d1, .a ao, none⟩) (e5 : tr[m]? = some (t1, h1)) (e6 : allocX t1 ao = some (b, mk)) (e7 : readX t h op = some v) (e8 : readX t (h'.pushAt h1.next b) op = some v) : checkAt l tr j k [m] = true := by
  unfold checkAt
  rw [e1, e2, e3]
  simp only [withPend, e4, e5, wantedX, cond_true, e6, e7, e8, sameV_refl, Bool.or_true]
theorem cb2sV_at {h g : Heap} {l : List Value} {v : Value} : cb2sV (g.pushAt h.next (.cells l)) v = cb2sV ((g.at h.next).new l) v := rfl
end
end Go.X
end

section
/-
  The functions of the seat as the interpreter has them: made by a program out of the loaded program itself; each is held against it by the kernel.
-/
namespace Go.X
open Go.Proofs
/- muniment/wire.Number -/
abbrev x_wire_Number_0l : List XO := [
  ⟨some 4, .p (.mov (C (.string (strOf [])))), none⟩]
def x_wire_Number_0 : List XO := x_wire_Number_0l
theorem x_wire_Number_0e : E3 x_wire_Number_0 x_wire_Number_0l := E3.rfl
abbrev x_wire_Number_1l : List XO := [
  ⟨some 5, .p (.mov (C (.slice none 0 0))), none⟩]
def x_wire_Number_1 : List XO := x_wire_Number_1l
theorem x_wire_Number_1e : E3 x_wire_Number_1 x_wire_Number_1l := E3.rfl
abbrev x_wire_Number_2l : List XO := [
  ⟨some 7, .p (.mov (T 1)), none⟩,
  ⟨some 8, .p (.minmax true (T 7) [(C (.int .i64 0))]), none⟩,
  ⟨some 9, .p (.minmax false (T 8) [(C (.int .i64 8))]), none⟩,
  ⟨some 10, .p (.mov (C (.int .i64 0))), none⟩]
def x_wire_Number_2 : List XO := x_wire_Number_2l
theorem x_wire_Number_2e : E3 x_wire_Number_2 x_wire_Number_2l := E3.rfl
abbrev x_wire_Number_3l : List XO := [
  ⟨some 11, .p (.bin .lss (T 10) (T 9)), none⟩]
def x_wire_Number_3 : List XO := x_wire_Number_3l
theorem x_wire_Number_3e : E3 x_wire_Number_3 x_wire_Number_3l := E3.rfl
abbrev x_wire_Number_4l : List XO := [
  ⟨some 12, .p (.mov (T 10)), none⟩,
  ⟨some 6, .p (.mov (T 12)), none⟩]
def x_wire_Number_4 : List XO := x_wire_Number_4l
theorem x_wire_Number_4e : E3 x_wire_Number_4 x_wire_Number_4l := E3.rfl
abbrev x_wire_Number_5l : List XO := [
  ⟨some 13, .p (.mov (T 5)), none⟩,
  ⟨some 14, .p (.mov (T 0)), none⟩,
  ⟨some 15, .p (.mov (T 1)), none⟩,
  ⟨some 16, .p (.minmax false (T 15) [(C (.int .i64 8))]), none⟩,
  ⟨some 17, .p (.bin .sub (T 16) (C (.int .i64 1))), none⟩,
  ⟨some 18, .p (.mov (T 6)), none⟩,
  ⟨some 19, .p (.bin .sub (T 17) (T 18)), none⟩,
  ⟨some 20, .p (.bin .mul (C (.int .i64 8)) (T 19)), none⟩,
  ⟨some 21, .p (.bin .shr (T 14) (T 20)), none⟩,
  ⟨some 22, .p (.cint .u8 (T 21)), none⟩,
  ⟨some 23, .a (.bslice [(.int .u8 0)] 1 [(0, 1, (T 22))]), none⟩,
  ⟨some 24, .e (.append 1 1 (T 13) (T 23)), none⟩,
  ⟨some 5, .p (.mov (T 24)), none⟩]
def x_wire_Number_5 : List XO := x_wire_Number_5l
theorem x_wire_Number_5e : E3 x_wire_Number_5 x_wire_Number_5l := E3.rfl
abbrev x_wire_Number_6l : List XO := [
  ⟨some 25, .p (.bin .add (T 10) (C (.int .i64 1))), none⟩,
  ⟨some 10, .p (.mov (T 25)), none⟩]
def x_wire_Number_6 : List XO := x_wire_Number_6l
theorem x_wire_Number_6e : E3 x_wire_Number_6 x_wire_Number_6l := E3.rfl
def x_wire_Number_7b : XC :=
  .seq (.ops x_wire_Number_3) (.seq (.cond (T 11) (.skip) (.exit 0)) (.seq (.block 1 (.seq (.ops x_wire_Number_4) (.ops x_wire_Number_5))) (.ops x_wire_Number_6)))
def x_wire_Number_7 : XC := x_wire_Number_7b
theorem x_wire_Number_7k {pr : Prog} {k : List KI} {Q : XE → Fr → Heap → Prop} {t : Fr} {h : Heap} (hw : wpk pr x_wire_Number_7b k Q t h) : wpk pr x_wire_Number_7 k Q t h := hw
abbrev x_wire_Number_8l : List XO := [
  ⟨some 26, .p (.mov (T 5)), none⟩,
  ⟨some 27, .r (.cb2s (T 26)), none⟩,
  ⟨some 4, .p (.mov (T 27)), none⟩]
def x_wire_Number_8 : List XO := x_wire_Number_8l
theorem x_wire_Number_8e : E3 x_wire_Number_8 x_wire_Number_8l := E3.rfl
def x_wire_Number : XF := ⟨2, [.tmp 4],
  .seq (.ops x_wire_Number_0) (.seq (.ops x_wire_Number_1) (.seq (.seq (.ops x_wire_Number_2) (.block 0 (.loop x_wire_Number_7))) (.seq (.ops x_wire_Number_8) (.ret))))⟩
def y_wire_Number := PLift.up (And.intro (And.intro (And.intro (@x_wire_Number_0e) (@x_wire_Number_1e)) (And.intro (@x_wire_Number_2e) (@x_wire_Number_3e))) (And.intro (And.intro (@x_wire_Number_4e) (@x_wire_Number_5e)) (And.intro (@x_wire_Number_6e) (@x_wire_Number_8e))))
theorem c_wire_Number : funcC Try.prog Try.f90 = some x_wire_Number := by kernel_rfl
/- muniment/wire.NewWriter -/
abbrev x_wire_NewWriter_0l : List XO := [
  ⟨some 0, .p (.mov (C (.pointer none))), none⟩]
def x_wire_NewWriter_0 : List XO := x_wire_NewWriter_0l
theorem x_wire_NewWriter_0e : E3 x_wire_NewWriter_0 x_wire_NewWriter_0l := E3.rfl
abbrev x_wire_NewWriter_1l : List XO := [
  ⟨some 1, .p (.build [(.slice none 0 0)] []), none⟩,
  ⟨some 2, .a (.box (T 1)), none⟩,
  ⟨some 0, .p (.mov (T 2)), none⟩]
def x_wire_NewWriter_1 : List XO := x_wire_NewWriter_1l
theorem x_wire_NewWriter_1e : E3 x_wire_NewWriter_1 x_wire_NewWriter_1l := E3.rfl
def x_wire_NewWriter : XF := ⟨0, [.tmp 0],
  .seq (.ops x_wire_NewWriter_0) (.seq (.ops x_wire_NewWriter_1) (.ret))⟩
def y_wire_NewWriter := PLift.up (And.intro (@x_wire_NewWriter_0e) (@x_wire_NewWriter_1e))
theorem c_wire_NewWriter : funcC Try.prog Try.f51 = some x_wire_NewWriter := by kernel_rfl
/- (*muniment/wire.Writer).Bytes -/
abbrev x_wire_Writer_Bytes_0l : List XO := [
  ⟨some 4, .p (.mov (T 0)), none⟩,
  ⟨some 5, .p (.eql true .nptr (T 4) (C (.pointer none))), none⟩]
def x_wire_Writer_Bytes_0 : List XO := x_wire_Writer_Bytes_0l
theorem x_wire_Writer_Bytes_0e : E3 x_wire_Writer_Bytes_0 x_wire_Writer_Bytes_0l := E3.rfl
abbrev x_wire_Writer_Bytes_1l : List XO := [
  ⟨some 6, .p (.mov (T 0)), none⟩,
  ⟨some 7, .p (.mov (T 0)), none⟩,
  ⟨some 8, .p (.nilc (T 7)), none⟩,
  ⟨some 9, .p (.faddr 0 (T 8)), none⟩,
  ⟨some 10, .r (.load1 (T 9)), none⟩,
  ⟨some 11, .p (.mov (T 1)), none⟩,
  ⟨some 12, .e (.append 1 1 (T 10) (T 11)), none⟩,
  ⟨some 13, .p (.nilc (T 6)), none⟩,
  ⟨some 14, .p (.faddr 0 (T 13)), none⟩,
  ⟨none, .e (.store 1 (T 14) (T 12)), none⟩]
def x_wire_Writer_Bytes_1 : List XO := x_wire_Writer_Bytes_1l
theorem x_wire_Writer_Bytes_1e : E3 x_wire_Writer_Bytes_1 x_wire_Writer_Bytes_1l := E3.rfl
def x_wire_Writer_Bytes : XF := ⟨2, [],
  .seq (.ops x_wire_Writer_Bytes_0) (.cond (T 5) (.ops x_wire_Writer_Bytes_1) (.skip))⟩
def y_wire_Writer_Bytes := PLift.up (And.intro (@x_wire_Writer_Bytes_0e) (@x_wire_Writer_Bytes_1e))
theorem c_wire_Writer_Bytes : funcC Try.prog Try.f91 = some x_wire_Writer_Bytes := by kernel_rfl
/- (*muniment/wire.Writer).Number -/
abbrev x_wire_Writer_Number_0l : List XO := [
  ⟨some 6, .p (.mov (T 0)), none⟩,
  ⟨some 7, .p (.mov (T 1)), none⟩,
  ⟨some 8, .p (.mov (T 2)), none⟩,
  ⟨some 9, .call (.func 90) [(T 7), (T 8)], none⟩,
  ⟨some 10, .call (.func 91) [(T 6), (T 9)], none⟩]
def x_wire_Writer_Number_0 : List XO := x_wire_Writer_Number_0l
theorem x_wire_Writer_Number_0e : E3 x_wire_Writer_Number_0 x_wire_Writer_Number_0l := E3.rfl
def x_wire_Writer_Number : XF := ⟨3, [],
  .ops x_wire_Writer_Number_0⟩
def y_wire_Writer_Number := PLift.up (@x_wire_Writer_Number_0e)
theorem c_wire_Writer_Number : funcC Try.prog Try.f66 = some x_wire_Writer_Number := by kernel_rfl
/- (*muniment/wire.Writer).Count -/
abbrev x_wire_Writer_Count_0l : List XO := [
  ⟨some 4, .p (.mov (T 0)), none⟩,
  ⟨some 5, .p (.mov (T 1)), none⟩,
  ⟨some 6, .p (.minmax true (T 5) [(C (.int .i64 0))]), none⟩,
  ⟨some 7, .p (.cint .u64 (T 6)), none⟩,
  ⟨some 8, .call (.func 66) [(T 4), (T 7), (C (.int .i64 4))], none⟩]
def x_wire_Writer_Count_0 : List XO := x_wire_Writer_Count_0l
theorem x_wire_Writer_Count_0e : E3 x_wire_Writer_Count_0 x_wire_Writer_Count_0l := E3.rfl
def x_wire_Writer_Count : XF := ⟨2, [],
  .ops x_wire_Writer_Count_0⟩
def y_wire_Writer_Count := PLift.up (@x_wire_Writer_Count_0e)
theorem c_wire_Writer_Count : funcC Try.prog Try.f92 = some x_wire_Writer_Count := by kernel_rfl
/- (*muniment/wire.Writer).Text -/
abbrev x_wire_Writer_Text_0l : List XO := [
  ⟨some 4, .p (.mov (T 0)), none⟩,
  ⟨some 5, .p (.mov (T 1)), none⟩,
  ⟨some 6, .p (.lenS (T 5)), none⟩,
  ⟨some 7, .call (.func 92) [(T 4), (T 6)], none⟩]
def x_wire_Writer_Text_0 : List XO := x_wire_Writer_Text_0l
theorem x_wire_Writer_Text_0e : E3 x_wire_Writer_Text_0 x_wire_Writer_Text_0l := E3.rfl
abbrev x_wire_Writer_Text_1l : List XO := [
  ⟨some 8, .p (.mov (T 0)), none⟩,
  ⟨some 9, .p (.mov (T 1)), none⟩,
  ⟨some 10, .call (.func 91) [(T 8), (T 9)], none⟩]
def x_wire_Writer_Text_1 : List XO := x_wire_Writer_Text_1l
theorem x_wire_Writer_Text_1e : E3 x_wire_Writer_Text_1 x_wire_Writer_Text_1l := E3.rfl
def x_wire_Writer_Text : XF := ⟨2, [],
  .seq (.ops x_wire_Writer_Text_0) (.ops x_wire_Writer_Text_1)⟩
def y_wire_Writer_Text := PLift.up (And.intro (@x_wire_Writer_Text_0e) (@x_wire_Writer_Text_1e))
theorem c_wire_Writer_Text : funcC Try.prog Try.f67 = some x_wire_Writer_Text := by kernel_rfl
/- (*muniment/wire.Writer).Hash -/
abbrev x_wire_Writer_Hash_0l : List XO := [
  ⟨some 5, .a (.mkslice [(.int .u8 0)] 1 (C (.int .i64 32)) (C (.int .i64 32))), none⟩,
  ⟨some 4, .p (.mov (T 5)), none⟩]
def x_wire_Writer_Hash_0 : List XO := x_wire_Writer_Hash_0l
theorem x_wire_Writer_Hash_0e : E3 x_wire_Writer_Hash_0 x_wire_Writer_Hash_0l := E3.rfl
abbrev x_wire_Writer_Hash_1l : List XO := [
  ⟨some 6, .p (.mov (T 4)), none⟩,
  ⟨some 7, .p (.mov (T 1)), none⟩,
  ⟨some 8, .e (.copy 1 (T 6) (T 7)), none⟩]
def x_wire_Writer_Hash_1 : List XO := x_wire_Writer_Hash_1l
theorem x_wire_Writer_Hash_1e : E3 x_wire_Writer_Hash_1 x_wire_Writer_Hash_1l := E3.rfl
abbrev x_wire_Writer_Hash_2l : List XO := [
  ⟨some 9, .p (.mov (T 0)), none⟩,
  ⟨some 10, .p (.mov (T 4)), none⟩,
  ⟨some 11, .r (.cb2s (T 10)), none⟩,
  ⟨some 12, .call (.func 91) [(T 9), (T 11)], none⟩]
def x_wire_Writer_Hash_2 : List XO := x_wire_Writer_Hash_2l
theorem x_wire_Writer_Hash_2e : E3 x_wire_Writer_Hash_2 x_wire_Writer_Hash_2l := E3.rfl
def x_wire_Writer_Hash : XF := ⟨2, [],
  .seq (.ops x_wire_Writer_Hash_0) (.seq (.ops x_wire_Writer_Hash_1) (.ops x_wire_Writer_Hash_2))⟩
def y_wire_Writer_Hash := PLift.up (And.intro (@x_wire_Writer_Hash_0e) (And.intro (@x_wire_Writer_Hash_1e) (@x_wire_Writer_Hash_2e)))
theorem c_wire_Writer_Hash : funcC Try.prog Try.f68 = some x_wire_Writer_Hash := by kernel_rfl
/- (*muniment/wire.Writer).All -/
abbrev x_wire_Writer_All_0l : List XO := [
  ⟨some 2, .p (.mov (C (.string (strOf [])))), none⟩]
def x_wire_Writer_All_0 : List XO := x_wire_Writer_All_0l
theorem x_wire_Writer_All_0e : E3 x_wire_Writer_All_0 x_wire_Writer_All_0l := E3.rfl
abbrev x_wire_Writer_All_1l : List XO := [
  ⟨some 3, .p (.mov (T 0)), none⟩,
  ⟨some 4, .p (.eql false .nptr (T 3) (C (.pointer none))), none⟩]
def x_wire_Writer_All_1 : List XO := x_wire_Writer_All_1l
theorem x_wire_Writer_All_1e : E3 x_wire_Writer_All_1 x_wire_Writer_All_1l := E3.rfl
abbrev x_wire_Writer_All_2l : List XO := [
  ⟨some 2, .p (.mov (C (.string (strOf [])))), none⟩]
def x_wire_Writer_All_2 : List XO := x_wire_Writer_All_2l
theorem x_wire_Writer_All_2e : E3 x_wire_Writer_All_2 x_wire_Writer_All_2l := E3.rfl
abbrev x_wire_Writer_All_3l : List XO := [
  ⟨some 5, .p (.mov (T 0)), none⟩,
  ⟨some 6, .p (.nilc (T 5)), none⟩,
  ⟨some 7, .p (.faddr 0 (T 6)), none⟩,
  ⟨some 8, .r (.load1 (T 7)), none⟩,
  ⟨some 9, .r (.cb2s (T 8)), none⟩,
  ⟨some 2, .p (.mov (T 9)), none⟩]
def x_wire_Writer_All_3 : List XO := x_wire_Writer_All_3l
theorem x_wire_Writer_All_3e : E3 x_wire_Writer_All_3 x_wire_Writer_All_3l := E3.rfl
def x_wire_Writer_All : XF := ⟨1, [.tmp 2],
  .seq (.ops x_wire_Writer_All_0) (.seq (.seq (.ops x_wire_Writer_All_1) (.cond (T 4) (.seq (.ops x_wire_Writer_All_2) (.ret)) (.skip))) (.seq (.ops x_wire_Writer_All_3) (.ret)))⟩
def y_wire_Writer_All := PLift.up (And.intro (And.intro (@x_wire_Writer_All_0e) (@x_wire_Writer_All_1e)) (And.intro (@x_wire_Writer_All_2e) (@x_wire_Writer_All_3e)))
theorem c_wire_Writer_All : funcC Try.prog Try.f53 = some x_wire_Writer_All := by kernel_rfl
/- muniment/wire.NewReader -/
abbrev x_wire_NewReader_0l : List XO := [
  ⟨some 2, .p (.mov (C (.pointer none))), none⟩]
def x_wire_NewReader_0 : List XO := x_wire_NewReader_0l
theorem x_wire_NewReader_0e : E3 x_wire_NewReader_0 x_wire_NewReader_0l := E3.rfl
abbrev x_wire_NewReader_1l : List XO := [
  ⟨some 3, .p (.mov (T 0)), none⟩,
  ⟨some 4, .p (.build [(.string (strOf [])), (.int .i64 0), (.int .i64 0)] [(0, 1, (T 3))]), none⟩,
  ⟨some 5, .a (.box (T 4)), none⟩,
  ⟨some 2, .p (.mov (T 5)), none⟩]
def x_wire_NewReader_1 : List XO := x_wire_NewReader_1l
theorem x_wire_NewReader_1e : E3 x_wire_NewReader_1 x_wire_NewReader_1l := E3.rfl
def x_wire_NewReader : XF := ⟨1, [.tmp 2],
  .seq (.ops x_wire_NewReader_0) (.seq (.ops x_wire_NewReader_1) (.ret))⟩
def y_wire_NewReader := PLift.up (And.intro (@x_wire_NewReader_0e) (@x_wire_NewReader_1e))
theorem c_wire_NewReader : funcC Try.prog Try.f54 = some x_wire_NewReader := by kernel_rfl
/- (*muniment/wire.Reader).Number -/
abbrev x_wire_Reader_Number_0l : List XO := [
  ⟨some 4, .p (.mov (C (.int .u64 0))), none⟩]
def x_wire_Reader_Number_0 : List XO := x_wire_Reader_Number_0l
theorem x_wire_Reader_Number_0e : E3 x_wire_Reader_Number_0 x_wire_Reader_Number_0l := E3.rfl
abbrev x_wire_Reader_Number_1l : List XO := [
  ⟨some 8, .p (.mov (T 0)), none⟩,
  ⟨some 9, .call (.func 57) [(T 8)], none⟩,
  ⟨some 10, .p (.eql false .int (T 9) (C (.int .i64 0))), none⟩,
  ⟨some 11, .p (.mov (T 10)), none⟩,
  ⟨some 12, .p (.mov (T 1)), some (11, true)⟩,
  ⟨some 13, .p (.bin .gtr (T 12) (C (.int .i64 8))), some (11, true)⟩,
  ⟨some 14, .p (.pick (T 11) (T 13) (C (.bool false))), none⟩]
def x_wire_Reader_Number_1 : List XO := x_wire_Reader_Number_1l
theorem x_wire_Reader_Number_1e : E3 x_wire_Reader_Number_1 x_wire_Reader_Number_1l := E3.rfl
abbrev x_wire_Reader_Number_2l : List XO := [
  ⟨some 15, .p (.mov (T 0)), none⟩,
  ⟨some 16, .p (.nilc (T 15)), none⟩,
  ⟨some 17, .p (.faddr 2 (T 16)), none⟩,
  ⟨none, .e (.store 1 (T 17) (C (.int .i64 1))), none⟩]
def x_wire_Reader_Number_2 : List XO := x_wire_Reader_Number_2l
theorem x_wire_Reader_Number_2e : E3 x_wire_Reader_Number_2 x_wire_Reader_Number_2l := E3.rfl
abbrev x_wire_Reader_Number_3l : List XO := [
  ⟨some 5, .p (.mov (C (.int .u64 0))), none⟩]
def x_wire_Reader_Number_3 : List XO := x_wire_Reader_Number_3l
theorem x_wire_Reader_Number_3e : E3 x_wire_Reader_Number_3 x_wire_Reader_Number_3l := E3.rfl
abbrev x_wire_Reader_Number_4l : List XO := [
  ⟨some 18, .p (.mov (T 0)), none⟩,
  ⟨some 19, .p (.mov (T 1)), none⟩,
  ⟨some 20, .call (.func 93) [(T 18), (T 19)], none⟩,
  ⟨some 21, .a (.cs2b (T 20)), none⟩,
  ⟨some 22, .p (.lenV (T 21)), none⟩,
  ⟨some 23, .p (.mov (C (.int .i64 0))), none⟩]
def x_wire_Reader_Number_4 : List XO := x_wire_Reader_Number_4l
theorem x_wire_Reader_Number_4e : E3 x_wire_Reader_Number_4 x_wire_Reader_Number_4l := E3.rfl
abbrev x_wire_Reader_Number_5l : List XO := [
  ⟨some 24, .p (.bin .lss (T 23) (T 22)), none⟩]
def x_wire_Reader_Number_5 : List XO := x_wire_Reader_Number_5l
theorem x_wire_Reader_Number_5e : E3 x_wire_Reader_Number_5 x_wire_Reader_Number_5l := E3.rfl
abbrev x_wire_Reader_Number_6l : List XO := [
  ⟨some 25, .p (.iaddrS 1 (T 21) (T 23)), none⟩,
  ⟨some 26, .r (.load1 (T 25)), none⟩,
  ⟨some 7, .p (.mov (T 26)), none⟩]
def x_wire_Reader_Number_6 : List XO := x_wire_Reader_Number_6l
theorem x_wire_Reader_Number_6e : E3 x_wire_Reader_Number_6 x_wire_Reader_Number_6l := E3.rfl
abbrev x_wire_Reader_Number_7l : List XO := [
  ⟨some 27, .p (.mov (T 5)), none⟩,
  ⟨some 28, .p (.bin .shl (T 27) (C (.int .u64 8))), none⟩,
  ⟨some 29, .p (.mov (T 7)), none⟩,
  ⟨some 30, .p (.cint .u64 (T 29)), none⟩,
  ⟨some 31, .p (.bin .or (T 28) (T 30)), none⟩,
  ⟨some 5, .p (.mov (T 31)), none⟩]
def x_wire_Reader_Number_7 : List XO := x_wire_Reader_Number_7l
theorem x_wire_Reader_Number_7e : E3 x_wire_Reader_Number_7 x_wire_Reader_Number_7l := E3.rfl
abbrev x_wire_Reader_Number_8l : List XO := [
  ⟨some 32, .p (.bin .add (T 23) (C (.int .i64 1))), none⟩,
  ⟨some 23, .p (.mov (T 32)), none⟩]
def x_wire_Reader_Number_8 : List XO := x_wire_Reader_Number_8l
theorem x_wire_Reader_Number_8e : E3 x_wire_Reader_Number_8 x_wire_Reader_Number_8l := E3.rfl
def x_wire_Reader_Number_9b : XC :=
  .seq (.ops x_wire_Reader_Number_5) (.seq (.cond (T 24) (.skip) (.exit 0)) (.seq (.block 1 (.seq (.ops x_wire_Reader_Number_6) (.ops x_wire_Reader_Number_7))) (.ops x_wire_Reader_Number_8)))
def x_wire_Reader_Number_9 : XC := x_wire_Reader_Number_9b
theorem x_wire_Reader_Number_9k {pr : Prog} {k : List KI} {Q : XE → Fr → Heap → Prop} {t : Fr} {h : Heap} (hw : wpk pr x_wire_Reader_Number_9b k Q t h) : wpk pr x_wire_Reader_Number_9 k Q t h := hw
abbrev x_wire_Reader_Number_10l : List XO := [
  ⟨some 33, .p (.mov (T 5)), none⟩,
  ⟨some 4, .p (.mov (T 33)), none⟩]
def x_wire_Reader_Number_10 : List XO := x_wire_Reader_Number_10l
theorem x_wire_Reader_Number_10e : E3 x_wire_Reader_Number_10 x_wire_Reader_Number_10l := E3.rfl
def x_wire_Reader_Number : XF := ⟨2, [.tmp 4],
  .seq (.ops x_wire_Reader_Number_0) (.seq (.seq (.ops x_wire_Reader_Number_1) (.cond (T 14) (.ops x_wire_Reader_Number_2) (.skip))) (.seq (.ops x_wire_Reader_Number_3) (.seq (.seq (.ops x_wire_Reader_Number_4) (.block 0 (.loop x_wire_Reader_Number_9))) (.seq (.ops x_wire_Reader_Number_10) (.ret)))))⟩
def y_wire_Reader_Number := PLift.up (And.intro (And.intro (And.intro (@x_wire_Reader_Number_0e) (@x_wire_Reader_Number_1e)) (And.intro (@x_wire_Reader_Number_2e) (And.intro (@x_wire_Reader_Number_3e) (@x_wire_Reader_Number_4e)))) (And.intro (And.intro (@x_wire_Reader_Number_5e) (@x_wire_Reader_Number_6e)) (And.intro (@x_wire_Reader_Number_7e) (And.intro (@x_wire_Reader_Number_8e) (@x_wire_Reader_Number_10e)))))
theorem c_wire_Reader_Number : funcC Try.prog Try.f69 = some x_wire_Reader_Number := by kernel_rfl
/- (*muniment/wire.Reader).Bytes -/
abbrev x_wire_Reader_Bytes_0l : List XO := [
  ⟨some 4, .p (.mov (C (.string (strOf [])))), none⟩]
def x_wire_Reader_Bytes_0 : List XO := x_wire_Reader_Bytes_0l
theorem x_wire_Reader_Bytes_0e : E3 x_wire_Reader_Bytes_0 x_wire_Reader_Bytes_0l := E3.rfl
abbrev x_wire_Reader_Bytes_1l : List XO := [
  ⟨some 6, .p (.mov (T 0)), none⟩,
  ⟨some 7, .call (.func 57) [(T 6)], none⟩,
  ⟨some 8, .p (.eql true .int (T 7) (C (.int .i64 0))), none⟩,
  ⟨some 5, .p (.mov (T 8)), none⟩]
def x_wire_Reader_Bytes_1 : List XO := x_wire_Reader_Bytes_1l
theorem x_wire_Reader_Bytes_1e : E3 x_wire_Reader_Bytes_1 x_wire_Reader_Bytes_1l := E3.rfl
abbrev x_wire_Reader_Bytes_2l : List XO := [
  ⟨some 4, .p (.mov (C (.string (strOf [])))), none⟩]
def x_wire_Reader_Bytes_2 : List XO := x_wire_Reader_Bytes_2l
theorem x_wire_Reader_Bytes_2e : E3 x_wire_Reader_Bytes_2 x_wire_Reader_Bytes_2l := E3.rfl
abbrev x_wire_Reader_Bytes_3l : List XO := [
  ⟨some 10, .p (.mov (T 1)), none⟩,
  ⟨some 11, .p (.bin .lss (T 10) (C (.int .i64 0))), none⟩,
  ⟨some 9, .p (.mov (T 11)), none⟩]
def x_wire_Reader_Bytes_3 : List XO := x_wire_Reader_Bytes_3l
theorem x_wire_Reader_Bytes_3e : E3 x_wire_Reader_Bytes_3 x_wire_Reader_Bytes_3l := E3.rfl
abbrev x_wire_Reader_Bytes_4l : List XO := [
  ⟨some 12, .p (.mov (T 0)), none⟩,
  ⟨some 13, .p (.nilc (T 12)), none⟩,
  ⟨some 14, .p (.faddr 2 (T 13)), none⟩,
  ⟨none, .e (.store 1 (T 14) (C (.int .i64 1))), none⟩]
def x_wire_Reader_Bytes_4 : List XO := x_wire_Reader_Bytes_4l
theorem x_wire_Reader_Bytes_4e : E3 x_wire_Reader_Bytes_4 x_wire_Reader_Bytes_4l := E3.rfl
abbrev x_wire_Reader_Bytes_5l : List XO := [
  ⟨some 4, .p (.mov (C (.string (strOf [])))), none⟩]
def x_wire_Reader_Bytes_5 : List XO := x_wire_Reader_Bytes_5l
theorem x_wire_Reader_Bytes_5e : E3 x_wire_Reader_Bytes_5 x_wire_Reader_Bytes_5l := E3.rfl
abbrev x_wire_Reader_Bytes_6l : List XO := [
  ⟨some 16, .p (.mov (T 1)), none⟩,
  ⟨some 17, .p (.mov (T 0)), none⟩,
  ⟨some 18, .p (.nilc (T 17)), none⟩,
  ⟨some 19, .p (.faddr 0 (T 18)), none⟩,
  ⟨some 20, .r (.load1 (T 19)), none⟩,
  ⟨some 21, .p (.lenS (T 20)), none⟩,
  ⟨some 22, .p (.mov (T 0)), none⟩,
  ⟨some 23, .p (.nilc (T 22)), none⟩,
  ⟨some 24, .p (.faddr 1 (T 23)), none⟩,
  ⟨some 25, .r (.load1 (T 24)), none⟩,
  ⟨some 26, .p (.bin .sub (T 21) (T 25)), none⟩,
  ⟨some 27, .p (.bin .gtr (T 16) (T 26)), none⟩,
  ⟨some 15, .p (.mov (T 27)), none⟩]
def x_wire_Reader_Bytes_6 : List XO := x_wire_Reader_Bytes_6l
theorem x_wire_Reader_Bytes_6e : E3 x_wire_Reader_Bytes_6 x_wire_Reader_Bytes_6l := E3.rfl
abbrev x_wire_Reader_Bytes_7l : List XO := [
  ⟨some 28, .p (.mov (T 0)), none⟩,
  ⟨some 29, .p (.nilc (T 28)), none⟩,
  ⟨some 30, .p (.faddr 2 (T 29)), none⟩,
  ⟨none, .e (.store 1 (T 30) (C (.int .i64 4))), none⟩]
def x_wire_Reader_Bytes_7 : List XO := x_wire_Reader_Bytes_7l
theorem x_wire_Reader_Bytes_7e : E3 x_wire_Reader_Bytes_7 x_wire_Reader_Bytes_7l := E3.rfl
abbrev x_wire_Reader_Bytes_8l : List XO := [
  ⟨some 4, .p (.mov (C (.string (strOf [])))), none⟩]
def x_wire_Reader_Bytes_8 : List XO := x_wire_Reader_Bytes_8l
theorem x_wire_Reader_Bytes_8e : E3 x_wire_Reader_Bytes_8 x_wire_Reader_Bytes_8l := E3.rfl
abbrev x_wire_Reader_Bytes_9l : List XO := [
  ⟨some 31, .p (.mov (T 0)), none⟩,
  ⟨some 32, .p (.nilc (T 31)), none⟩,
  ⟨some 33, .p (.faddr 1 (T 32)), none⟩,
  ⟨some 34, .r (.load1 (T 33)), none⟩,
  ⟨some 35, .p (.mov (T 1)), none⟩,
  ⟨some 36, .p (.bin .add (T 34) (T 35)), none⟩,
  ⟨some 37, .p (.nilc (T 31)), none⟩,
  ⟨some 38, .p (.faddr 1 (T 37)), none⟩,
  ⟨none, .e (.store 1 (T 38) (T 36)), none⟩]
def x_wire_Reader_Bytes_9 : List XO := x_wire_Reader_Bytes_9l
theorem x_wire_Reader_Bytes_9e : E3 x_wire_Reader_Bytes_9 x_wire_Reader_Bytes_9l := E3.rfl
abbrev x_wire_Reader_Bytes_10l : List XO := [
  ⟨some 39, .p (.mov (T 0)), none⟩,
  ⟨some 40, .p (.nilc (T 39)), none⟩,
  ⟨some 41, .p (.faddr 0 (T 40)), none⟩,
  ⟨some 42, .r (.load1 (T 41)), none⟩,
  ⟨some 43, .p (.mov (T 0)), none⟩,
  ⟨some 44, .p (.nilc (T 43)), none⟩,
  ⟨some 45, .p (.faddr 1 (T 44)), none⟩,
  ⟨some 46, .r (.load1 (T 45)), none⟩,
  ⟨some 47, .p (.mov (T 1)), none⟩,
  ⟨some 48, .p (.bin .sub (T 46) (T 47)), none⟩,
  ⟨some 49, .p (.mov (T 0)), none⟩,
  ⟨some 50, .p (.nilc (T 49)), none⟩,
  ⟨some 51, .p (.faddr 1 (T 50)), none⟩,
  ⟨some 52, .r (.load1 (T 51)), none⟩,
  ⟨some 53, .p (.slcS (T 42) (some (T 48)) (some (T 52))), none⟩,
  ⟨some 4, .p (.mov (T 53)), none⟩]
def x_wire_Reader_Bytes_10 : List XO := x_wire_Reader_Bytes_10l
theorem x_wire_Reader_Bytes_10e : E3 x_wire_Reader_Bytes_10 x_wire_Reader_Bytes_10l := E3.rfl
def x_wire_Reader_Bytes : XF := ⟨2, [.tmp 4],
  .seq (.ops x_wire_Reader_Bytes_0) (.seq (.block 0 (.seq (.ops x_wire_Reader_Bytes_1) (.cond (T 5) (.seq (.ops x_wire_Reader_Bytes_2) (.ret)) (.seq (.ops x_wire_Reader_Bytes_3) (.cond (T 9) (.seq (.ops x_wire_Reader_Bytes_4) (.seq (.ops x_wire_Reader_Bytes_5) (.ret))) (.seq (.draw x_wire_Reader_Bytes_6 []) (.cond (T 15) (.seq (.ops x_wire_Reader_Bytes_7) (.seq (.ops x_wire_Reader_Bytes_8) (.ret))) (.skip)))))))) (.seq (.ops x_wire_Reader_Bytes_9) (.seq (.draw x_wire_Reader_Bytes_10 []) (.ret))))⟩
def y_wire_Reader_Bytes := PLift.up (And.intro (And.intro (And.intro (@x_wire_Reader_Bytes_0e) (@x_wire_Reader_Bytes_1e)) (And.intro (@x_wire_Reader_Bytes_2e) (And.intro (@x_wire_Reader_Bytes_3e) (@x_wire_Reader_Bytes_4e)))) (And.intro (And.intro (@x_wire_Reader_Bytes_5e) (And.intro (@x_wire_Reader_Bytes_6e) (@x_wire_Reader_Bytes_7e))) (And.intro (@x_wire_Reader_Bytes_8e) (And.intro (@x_wire_Reader_Bytes_9e) (@x_wire_Reader_Bytes_10e)))))
theorem c_wire_Reader_Bytes : funcC Try.prog Try.f93 = some x_wire_Reader_Bytes := by kernel_rfl
/- (*muniment/wire.Reader).Count -/
abbrev x_wire_Reader_Count_0l : List XO := [
  ⟨some 4, .p (.mov (C (.int .i64 0))), none⟩]
def x_wire_Reader_Count_0 : List XO := x_wire_Reader_Count_0l
theorem x_wire_Reader_Count_0e : E3 x_wire_Reader_Count_0 x_wire_Reader_Count_0l := E3.rfl
abbrev x_wire_Reader_Count_1l : List XO := [
  ⟨some 7, .p (.mov (T 0)), none⟩,
  ⟨some 8, .call (.func 58) [(T 7)], none⟩,
  ⟨some 5, .p (.mov (T 8)), none⟩]
def x_wire_Reader_Count_1 : List XO := x_wire_Reader_Count_1l
theorem x_wire_Reader_Count_1e : E3 x_wire_Reader_Count_1 x_wire_Reader_Count_1l := E3.rfl
abbrev x_wire_Reader_Count_2l : List XO := [
  ⟨some 9, .p (.mov (T 0)), none⟩,
  ⟨some 10, .call (.func 69) [(T 9), (C (.int .i64 4))], none⟩,
  ⟨some 6, .p (.mov (T 10)), none⟩]
def x_wire_Reader_Count_2 : List XO := x_wire_Reader_Count_2l
theorem x_wire_Reader_Count_2e : E3 x_wire_Reader_Count_2 x_wire_Reader_Count_2l := E3.rfl
abbrev x_wire_Reader_Count_3l : List XO := [
  ⟨some 11, .p (.mov (T 0)), none⟩,
  ⟨some 12, .call (.func 57) [(T 11)], none⟩,
  ⟨some 13, .p (.eql true .int (T 12) (C (.int .i64 0))), none⟩]
def x_wire_Reader_Count_3 : List XO := x_wire_Reader_Count_3l
theorem x_wire_Reader_Count_3e : E3 x_wire_Reader_Count_3 x_wire_Reader_Count_3l := E3.rfl
abbrev x_wire_Reader_Count_4l : List XO := [
  ⟨some 4, .p (.mov (C (.int .i64 0))), none⟩]
def x_wire_Reader_Count_4 : List XO := x_wire_Reader_Count_4l
theorem x_wire_Reader_Count_4e : E3 x_wire_Reader_Count_4 x_wire_Reader_Count_4l := E3.rfl
abbrev x_wire_Reader_Count_5l : List XO := [
  ⟨some 14, .p (.mov (T 1)), none⟩,
  ⟨some 15, .p (.bin .lss (T 14) (C (.int .i64 0))), none⟩,
  ⟨some 16, .p (.mov (T 15)), none⟩,
  ⟨some 17, .p (.mov (T 6)), some (16, false)⟩,
  ⟨some 18, .p (.mov (T 1)), some (16, false)⟩,
  ⟨some 19, .p (.cint .u64 (T 18)), some (16, false)⟩,
  ⟨some 20, .p (.bin .gtr (T 17) (T 19)), some (16, false)⟩,
  ⟨some 21, .p (.pick (T 16) (C (.bool true)) (T 20)), none⟩]
def x_wire_Reader_Count_5 : List XO := x_wire_Reader_Count_5l
theorem x_wire_Reader_Count_5e : E3 x_wire_Reader_Count_5 x_wire_Reader_Count_5l := E3.rfl
abbrev x_wire_Reader_Count_6l : List XO := [
  ⟨some 22, .p (.mov (T 0)), none⟩,
  ⟨some 23, .p (.mov (T 0)), none⟩,
  ⟨some 24, .p (.mov (T 5)), none⟩,
  ⟨some 25, .p (.nilc (T 22)), none⟩,
  ⟨some 26, .p (.faddr 1 (T 25)), none⟩,
  ⟨none, .e (.store 1 (T 26) (T 24)), none⟩,
  ⟨some 27, .p (.nilc (T 23)), none⟩,
  ⟨some 28, .p (.faddr 2 (T 27)), none⟩,
  ⟨none, .e (.store 1 (T 28) (C (.int .i64 3))), none⟩]
def x_wire_Reader_Count_6 : List XO := x_wire_Reader_Count_6l
theorem x_wire_Reader_Count_6e : E3 x_wire_Reader_Count_6 x_wire_Reader_Count_6l := E3.rfl
abbrev x_wire_Reader_Count_7l : List XO := [
  ⟨some 4, .p (.mov (C (.int .i64 0))), none⟩]
def x_wire_Reader_Count_7 : List XO := x_wire_Reader_Count_7l
theorem x_wire_Reader_Count_7e : E3 x_wire_Reader_Count_7 x_wire_Reader_Count_7l := E3.rfl
abbrev x_wire_Reader_Count_8l : List XO := [
  ⟨some 29, .p (.mov (T 6)), none⟩,
  ⟨some 30, .p (.cint .i64 (T 29)), none⟩,
  ⟨some 4, .p (.mov (T 30)), none⟩]
def x_wire_Reader_Count_8 : List XO := x_wire_Reader_Count_8l
theorem x_wire_Reader_Count_8e : E3 x_wire_Reader_Count_8 x_wire_Reader_Count_8l := E3.rfl
def x_wire_Reader_Count : XF := ⟨2, [.tmp 4],
  .seq (.ops x_wire_Reader_Count_0) (.seq (.ops x_wire_Reader_Count_1) (.seq (.ops x_wire_Reader_Count_2) (.seq (.seq (.ops x_wire_Reader_Count_3) (.cond (T 13) (.seq (.ops x_wire_Reader_Count_4) (.ret)) (.skip))) (.seq (.seq (.ops x_wire_Reader_Count_5) (.cond (T 21) (.seq (.ops x_wire_Reader_Count_6) (.seq (.ops x_wire_Reader_Count_7) (.ret))) (.skip))) (.seq (.ops x_wire_Reader_Count_8) (.ret))))))⟩
def y_wire_Reader_Count := PLift.up (And.intro (And.intro (And.intro (@x_wire_Reader_Count_0e) (@x_wire_Reader_Count_1e)) (And.intro (@x_wire_Reader_Count_2e) (@x_wire_Reader_Count_3e))) (And.intro (And.intro (@x_wire_Reader_Count_4e) (@x_wire_Reader_Count_5e)) (And.intro (@x_wire_Reader_Count_6e) (And.intro (@x_wire_Reader_Count_7e) (@x_wire_Reader_Count_8e)))))
theorem c_wire_Reader_Count : funcC Try.prog Try.f94 = some x_wire_Reader_Count := by kernel_rfl
/- (*muniment/wire.Reader).Text -/
abbrev x_wire_Reader_Text_0l : List XO := [
  ⟨some 4, .p (.mov (C (.string (strOf [])))), none⟩]
def x_wire_Reader_Text_0 : List XO := x_wire_Reader_Text_0l
theorem x_wire_Reader_Text_0e : E3 x_wire_Reader_Text_0 x_wire_Reader_Text_0l := E3.rfl
abbrev x_wire_Reader_Text_1l : List XO := [
  ⟨some 7, .p (.mov (T 0)), none⟩,
  ⟨some 8, .call (.func 58) [(T 7)], none⟩,
  ⟨some 5, .p (.mov (T 8)), none⟩]
def x_wire_Reader_Text_1 : List XO := x_wire_Reader_Text_1l
theorem x_wire_Reader_Text_1e : E3 x_wire_Reader_Text_1 x_wire_Reader_Text_1l := E3.rfl
abbrev x_wire_Reader_Text_2l : List XO := [
  ⟨some 9, .p (.mov (T 0)), none⟩,
  ⟨some 10, .p (.mov (T 0)), none⟩,
  ⟨some 11, .p (.mov (T 1)), none⟩,
  ⟨some 12, .call (.func 94) [(T 10), (T 11)], none⟩,
  ⟨some 13, .call (.func 93) [(T 9), (T 12)], none⟩,
  ⟨some 6, .p (.mov (T 13)), none⟩]
def x_wire_Reader_Text_2 : List XO := x_wire_Reader_Text_2l
theorem x_wire_Reader_Text_2e : E3 x_wire_Reader_Text_2 x_wire_Reader_Text_2l := E3.rfl
abbrev x_wire_Reader_Text_3l : List XO := [
  ⟨some 14, .p (.mov (T 0)), none⟩,
  ⟨some 15, .call (.func 57) [(T 14)], none⟩,
  ⟨some 16, .p (.eql true .int (T 15) (C (.int .i64 0))), none⟩,
  ⟨some 17, .p (.mov (T 16)), none⟩,
  ⟨some 18, .p (.mov (T 0)), some (17, true)⟩,
  ⟨some 19, .p (.eql true .nptr (T 18) (C (.pointer none))), some (17, true)⟩,
  ⟨some 20, .p (.pick (T 17) (T 19) (C (.bool false))), none⟩]
def x_wire_Reader_Text_3 : List XO := x_wire_Reader_Text_3l
theorem x_wire_Reader_Text_3e : E3 x_wire_Reader_Text_3 x_wire_Reader_Text_3l := E3.rfl
abbrev x_wire_Reader_Text_4l : List XO := [
  ⟨some 21, .p (.mov (T 0)), none⟩,
  ⟨some 22, .p (.mov (T 5)), none⟩,
  ⟨some 23, .p (.nilc (T 21)), none⟩,
  ⟨some 24, .p (.faddr 1 (T 23)), none⟩,
  ⟨none, .e (.store 1 (T 24) (T 22)), none⟩]
def x_wire_Reader_Text_4 : List XO := x_wire_Reader_Text_4l
theorem x_wire_Reader_Text_4e : E3 x_wire_Reader_Text_4 x_wire_Reader_Text_4l := E3.rfl
abbrev x_wire_Reader_Text_5l : List XO := [
  ⟨some 25, .p (.mov (T 6)), none⟩,
  ⟨some 4, .p (.mov (T 25)), none⟩]
def x_wire_Reader_Text_5 : List XO := x_wire_Reader_Text_5l
theorem x_wire_Reader_Text_5e : E3 x_wire_Reader_Text_5 x_wire_Reader_Text_5l := E3.rfl
def x_wire_Reader_Text : XF := ⟨2, [.tmp 4],
  .seq (.ops x_wire_Reader_Text_0) (.seq (.ops x_wire_Reader_Text_1) (.seq (.ops x_wire_Reader_Text_2) (.seq (.seq (.ops x_wire_Reader_Text_3) (.cond (T 20) (.ops x_wire_Reader_Text_4) (.skip))) (.seq (.ops x_wire_Reader_Text_5) (.ret)))))⟩
def y_wire_Reader_Text := PLift.up (And.intro (And.intro (@x_wire_Reader_Text_0e) (And.intro (@x_wire_Reader_Text_1e) (@x_wire_Reader_Text_2e))) (And.intro (@x_wire_Reader_Text_3e) (And.intro (@x_wire_Reader_Text_4e) (@x_wire_Reader_Text_5e))))
theorem c_wire_Reader_Text : funcC Try.prog Try.f70 = some x_wire_Reader_Text := by kernel_rfl
/- (*muniment/wire.Reader).Hash -/
abbrev x_wire_Reader_Hash_0l : List XO := [
  ⟨some 2, .p (.mov (C (.string (strOf [])))), none⟩]
def x_wire_Reader_Hash_0 : List XO := x_wire_Reader_Hash_0l
theorem x_wire_Reader_Hash_0e : E3 x_wire_Reader_Hash_0 x_wire_Reader_Hash_0l := E3.rfl
abbrev x_wire_Reader_Hash_1l : List XO := [
  ⟨some 3, .p (.mov (T 0)), none⟩,
  ⟨some 4, .call (.func 93) [(T 3), (C (.int .i64 32))], none⟩,
  ⟨some 2, .p (.mov (T 4)), none⟩]
def x_wire_Reader_Hash_1 : List XO := x_wire_Reader_Hash_1l
theorem x_wire_Reader_Hash_1e : E3 x_wire_Reader_Hash_1 x_wire_Reader_Hash_1l := E3.rfl
def x_wire_Reader_Hash : XF := ⟨1, [.tmp 2],
  .seq (.ops x_wire_Reader_Hash_0) (.seq (.ops x_wire_Reader_Hash_1) (.ret))⟩
def y_wire_Reader_Hash := PLift.up (And.intro (@x_wire_Reader_Hash_0e) (@x_wire_Reader_Hash_1e))
theorem c_wire_Reader_Hash : funcC Try.prog Try.f71 = some x_wire_Reader_Hash := by kernel_rfl
/- (*muniment/wire.Reader).End -/
abbrev x_wire_Reader_End_0l : List XO := [
  ⟨some 2, .p (.mov (C (.int .i64 0))), none⟩]
def x_wire_Reader_End_0 : List XO := x_wire_Reader_End_0l
theorem x_wire_Reader_End_0e : E3 x_wire_Reader_End_0 x_wire_Reader_End_0l := E3.rfl
abbrev x_wire_Reader_End_1l : List XO := [
  ⟨some 3, .p (.mov (T 0)), none⟩,
  ⟨some 4, .call (.func 56) [(T 3)], none⟩,
  ⟨some 5, .p (.bin .gtr (T 4) (C (.int .i64 0))), none⟩]
def x_wire_Reader_End_1 : List XO := x_wire_Reader_End_1l
theorem x_wire_Reader_End_1e : E3 x_wire_Reader_End_1 x_wire_Reader_End_1l := E3.rfl
abbrev x_wire_Reader_End_2l : List XO := [
  ⟨some 6, .p (.mov (T 0)), none⟩,
  ⟨some 7, .call (.func 84) [(T 6), (C (.int .i64 5))], none⟩]
def x_wire_Reader_End_2 : List XO := x_wire_Reader_End_2l
theorem x_wire_Reader_End_2e : E3 x_wire_Reader_End_2 x_wire_Reader_End_2l := E3.rfl
abbrev x_wire_Reader_End_3l : List XO := [
  ⟨some 8, .p (.mov (T 0)), none⟩,
  ⟨some 9, .call (.func 57) [(T 8)], none⟩,
  ⟨some 2, .p (.mov (T 9)), none⟩]
def x_wire_Reader_End_3 : List XO := x_wire_Reader_End_3l
theorem x_wire_Reader_End_3e : E3 x_wire_Reader_End_3 x_wire_Reader_End_3l := E3.rfl
def x_wire_Reader_End : XF := ⟨1, [.tmp 2],
  .seq (.ops x_wire_Reader_End_0) (.seq (.seq (.ops x_wire_Reader_End_1) (.cond (T 5) (.ops x_wire_Reader_End_2) (.skip))) (.seq (.ops x_wire_Reader_End_3) (.ret)))⟩
def y_wire_Reader_End := PLift.up (And.intro (And.intro (@x_wire_Reader_End_0e) (@x_wire_Reader_End_1e)) (And.intro (@x_wire_Reader_End_2e) (@x_wire_Reader_End_3e)))
theorem c_wire_Reader_End : funcC Try.prog Try.f72 = some x_wire_Reader_End := by kernel_rfl
/- (*muniment/wire.Reader).Fail -/
abbrev x_wire_Reader_Fail_0l : List XO := [
  ⟨some 4, .p (.mov (T 0)), none⟩,
  ⟨some 5, .p (.eql true .nptr (T 4) (C (.pointer none))), none⟩,
  ⟨some 6, .p (.mov (T 5)), none⟩,
  ⟨some 7, .p (.mov (T 0)), some (6, true)⟩,
  ⟨some 8, .p (.nilc (T 7)), some (6, true)⟩,
  ⟨some 9, .p (.faddr 2 (T 8)), some (6, true)⟩,
  ⟨some 10, .r (.load1 (T 9)), some (6, true)⟩,
  ⟨some 11, .p (.eql false .int (T 10) (C (.int .i64 0))), some (6, true)⟩,
  ⟨some 12, .p (.pick (T 6) (T 11) (C (.bool false))), none⟩]
def x_wire_Reader_Fail_0 : List XO := x_wire_Reader_Fail_0l
theorem x_wire_Reader_Fail_0e : E3 x_wire_Reader_Fail_0 x_wire_Reader_Fail_0l := E3.rfl
abbrev x_wire_Reader_Fail_1l : List XO := [
  ⟨some 13, .p (.mov (T 0)), none⟩,
  ⟨some 14, .p (.mov (T 1)), none⟩,
  ⟨some 15, .p (.nilc (T 13)), none⟩,
  ⟨some 16, .p (.faddr 2 (T 15)), none⟩,
  ⟨none, .e (.store 1 (T 16) (T 14)), none⟩]
def x_wire_Reader_Fail_1 : List XO := x_wire_Reader_Fail_1l
theorem x_wire_Reader_Fail_1e : E3 x_wire_Reader_Fail_1 x_wire_Reader_Fail_1l := E3.rfl
def x_wire_Reader_Fail : XF := ⟨2, [],
  .seq (.ops x_wire_Reader_Fail_0) (.cond (T 12) (.ops x_wire_Reader_Fail_1) (.skip))⟩
def y_wire_Reader_Fail := PLift.up (And.intro (@x_wire_Reader_Fail_0e) (@x_wire_Reader_Fail_1e))
theorem c_wire_Reader_Fail : funcC Try.prog Try.f84 = some x_wire_Reader_Fail := by kernel_rfl
/- (*muniment/wire.Reader).Left -/
abbrev x_wire_Reader_Left_0l : List XO := [
  ⟨some 2, .p (.mov (C (.int .i64 0))), none⟩]
def x_wire_Reader_Left_0 : List XO := x_wire_Reader_Left_0l
theorem x_wire_Reader_Left_0e : E3 x_wire_Reader_Left_0 x_wire_Reader_Left_0l := E3.rfl
abbrev x_wire_Reader_Left_1l : List XO := [
  ⟨some 3, .p (.mov (T 0)), none⟩,
  ⟨some 4, .p (.eql false .nptr (T 3) (C (.pointer none))), none⟩]
def x_wire_Reader_Left_1 : List XO := x_wire_Reader_Left_1l
theorem x_wire_Reader_Left_1e : E3 x_wire_Reader_Left_1 x_wire_Reader_Left_1l := E3.rfl
abbrev x_wire_Reader_Left_2l : List XO := [
  ⟨some 2, .p (.mov (C (.int .i64 0))), none⟩]
def x_wire_Reader_Left_2 : List XO := x_wire_Reader_Left_2l
theorem x_wire_Reader_Left_2e : E3 x_wire_Reader_Left_2 x_wire_Reader_Left_2l := E3.rfl
abbrev x_wire_Reader_Left_3l : List XO := [
  ⟨some 5, .p (.mov (T 0)), none⟩,
  ⟨some 6, .p (.nilc (T 5)), none⟩,
  ⟨some 7, .p (.faddr 0 (T 6)), none⟩,
  ⟨some 8, .r (.load1 (T 7)), none⟩,
  ⟨some 9, .p (.lenS (T 8)), none⟩,
  ⟨some 10, .p (.mov (T 0)), none⟩,
  ⟨some 11, .p (.nilc (T 10)), none⟩,
  ⟨some 12, .p (.faddr 1 (T 11)), none⟩,
  ⟨some 13, .r (.load1 (T 12)), none⟩,
  ⟨some 14, .p (.bin .sub (T 9) (T 13)), none⟩,
  ⟨some 2, .p (.mov (T 14)), none⟩]
def x_wire_Reader_Left_3 : List XO := x_wire_Reader_Left_3l
theorem x_wire_Reader_Left_3e : E3 x_wire_Reader_Left_3 x_wire_Reader_Left_3l := E3.rfl
def x_wire_Reader_Left : XF := ⟨1, [.tmp 2],
  .seq (.ops x_wire_Reader_Left_0) (.seq (.seq (.ops x_wire_Reader_Left_1) (.cond (T 4) (.seq (.ops x_wire_Reader_Left_2) (.ret)) (.skip))) (.seq (.draw x_wire_Reader_Left_3 []) (.ret)))⟩
def y_wire_Reader_Left := PLift.up (And.intro (And.intro (@x_wire_Reader_Left_0e) (@x_wire_Reader_Left_1e)) (And.intro (@x_wire_Reader_Left_2e) (@x_wire_Reader_Left_3e)))
theorem c_wire_Reader_Left : funcC Try.prog Try.f56 = some x_wire_Reader_Left := by kernel_rfl
/- (*muniment/wire.Reader).Err -/
abbrev x_wire_Reader_Err_0l : List XO := [
  ⟨some 2, .p (.mov (C (.int .i64 0))), none⟩]
def x_wire_Reader_Err_0 : List XO := x_wire_Reader_Err_0l
theorem x_wire_Reader_Err_0e : E3 x_wire_Reader_Err_0 x_wire_Reader_Err_0l := E3.rfl
abbrev x_wire_Reader_Err_1l : List XO := [
  ⟨some 3, .p (.mov (T 0)), none⟩,
  ⟨some 4, .p (.eql false .nptr (T 3) (C (.pointer none))), none⟩]
def x_wire_Reader_Err_1 : List XO := x_wire_Reader_Err_1l
theorem x_wire_Reader_Err_1e : E3 x_wire_Reader_Err_1 x_wire_Reader_Err_1l := E3.rfl
abbrev x_wire_Reader_Err_2l : List XO := [
  ⟨some 2, .p (.mov (C (.int .i64 1))), none⟩]
def x_wire_Reader_Err_2 : List XO := x_wire_Reader_Err_2l
theorem x_wire_Reader_Err_2e : E3 x_wire_Reader_Err_2 x_wire_Reader_Err_2l := E3.rfl
abbrev x_wire_Reader_Err_3l : List XO := [
  ⟨some 5, .p (.mov (T 0)), none⟩,
  ⟨some 6, .p (.nilc (T 5)), none⟩,
  ⟨some 7, .p (.faddr 2 (T 6)), none⟩,
  ⟨some 8, .r (.load1 (T 7)), none⟩,
  ⟨some 2, .p (.mov (T 8)), none⟩]
def x_wire_Reader_Err_3 : List XO := x_wire_Reader_Err_3l
theorem x_wire_Reader_Err_3e : E3 x_wire_Reader_Err_3 x_wire_Reader_Err_3l := E3.rfl
def x_wire_Reader_Err : XF := ⟨1, [.tmp 2],
  .seq (.ops x_wire_Reader_Err_0) (.seq (.seq (.ops x_wire_Reader_Err_1) (.cond (T 4) (.seq (.ops x_wire_Reader_Err_2) (.ret)) (.skip))) (.seq (.ops x_wire_Reader_Err_3) (.ret)))⟩
def y_wire_Reader_Err := PLift.up (And.intro (And.intro (@x_wire_Reader_Err_0e) (@x_wire_Reader_Err_1e)) (And.intro (@x_wire_Reader_Err_2e) (@x_wire_Reader_Err_3e)))
theorem c_wire_Reader_Err : funcC Try.prog Try.f57 = some x_wire_Reader_Err := by kernel_rfl
/- (*muniment/wire.Reader).At -/
abbrev x_wire_Reader_At_0l : List XO := [
  ⟨some 2, .p (.mov (C (.int .i64 0))), none⟩]
def x_wire_Reader_At_0 : List XO := x_wire_Reader_At_0l
theorem x_wire_Reader_At_0e : E3 x_wire_Reader_At_0 x_wire_Reader_At_0l := E3.rfl
abbrev x_wire_Reader_At_1l : List XO := [
  ⟨some 3, .p (.mov (T 0)), none⟩,
  ⟨some 4, .p (.eql false .nptr (T 3) (C (.pointer none))), none⟩]
def x_wire_Reader_At_1 : List XO := x_wire_Reader_At_1l
theorem x_wire_Reader_At_1e : E3 x_wire_Reader_At_1 x_wire_Reader_At_1l := E3.rfl
abbrev x_wire_Reader_At_2l : List XO := [
  ⟨some 2, .p (.mov (C (.int .i64 0))), none⟩]
def x_wire_Reader_At_2 : List XO := x_wire_Reader_At_2l
theorem x_wire_Reader_At_2e : E3 x_wire_Reader_At_2 x_wire_Reader_At_2l := E3.rfl
abbrev x_wire_Reader_At_3l : List XO := [
  ⟨some 5, .p (.mov (T 0)), none⟩,
  ⟨some 6, .p (.nilc (T 5)), none⟩,
  ⟨some 7, .p (.faddr 1 (T 6)), none⟩,
  ⟨some 8, .r (.load1 (T 7)), none⟩,
  ⟨some 2, .p (.mov (T 8)), none⟩]
def x_wire_Reader_At_3 : List XO := x_wire_Reader_At_3l
theorem x_wire_Reader_At_3e : E3 x_wire_Reader_At_3 x_wire_Reader_At_3l := E3.rfl
def x_wire_Reader_At : XF := ⟨1, [.tmp 2],
  .seq (.ops x_wire_Reader_At_0) (.seq (.seq (.ops x_wire_Reader_At_1) (.cond (T 4) (.seq (.ops x_wire_Reader_At_2) (.ret)) (.skip))) (.seq (.ops x_wire_Reader_At_3) (.ret)))⟩
def y_wire_Reader_At := PLift.up (And.intro (And.intro (@x_wire_Reader_At_0e) (@x_wire_Reader_At_1e)) (And.intro (@x_wire_Reader_At_2e) (@x_wire_Reader_At_3e)))
theorem c_wire_Reader_At : funcC Try.prog Try.f58 = some x_wire_Reader_At := by kernel_rfl
/- muniment/seal.said -/
abbrev x_seal_said_0l : List XO := [
  ⟨some 6, .p (.mov (C (.string (strOf [])))), none⟩]
def x_seal_said_0 : List XO := x_seal_said_0l
theorem x_seal_said_0e : E3 x_seal_said_0 x_seal_said_0l := E3.rfl
abbrev x_seal_said_1l : List XO := [
  ⟨some 7, .p (.mov (T 0)), none⟩,
  ⟨some 8, .p (.cint .u64 (T 7)), none⟩,
  ⟨some 9, .call (.func 90) [(T 8), (C (.int .i64 1))], none⟩,
  ⟨some 10, .p (.mov (T 1)), none⟩,
  ⟨some 11, .p (.cint .u64 (T 10)), none⟩,
  ⟨some 12, .call (.func 90) [(T 11), (C (.int .i64 1))], none⟩,
  ⟨some 13, .p (.mov (T 2)), none⟩,
  ⟨some 14, .a (.bslice [(.string (strOf [])), (.string (strOf [])), (.string (strOf []))] 3 [(0, 1, (T 9)), (1, 1, (T 12)), (2, 1, (T 13))]), none⟩,
  ⟨some 15, .call (.func 64) [(C (.int .u8 77)), (T 14)], none⟩,
  ⟨some 6, .p (.mov (T 15)), none⟩]
def x_seal_said_1 : List XO := x_seal_said_1l
theorem x_seal_said_1e : E3 x_seal_said_1 x_seal_said_1l := E3.rfl
def x_seal_said : XF := ⟨3, [.tmp 6],
  .seq (.ops x_seal_said_0) (.seq (.ops x_seal_said_1) (.ret))⟩
def y_seal_said := PLift.up (And.intro (@x_seal_said_0e) (@x_seal_said_1e))
theorem c_seal_said : funcC Try.prog Try.f65 = some x_seal_said := by kernel_rfl
/- muniment/seal.Seal -/
abbrev x_seal_Seal_0l : List XO := [
  ⟨some 8, .p (.mov (C (.string (strOf [])))), none⟩,
  ⟨some 9, .p (.mov (C (.int .i64 0))), none⟩]
def x_seal_Seal_0 : List XO := x_seal_Seal_0l
theorem x_seal_Seal_0e : E3 x_seal_Seal_0 x_seal_Seal_0l := E3.rfl
abbrev x_seal_Seal_1l : List XO := [
  ⟨some 13, .p (.mov (T 1)), none⟩,
  ⟨some 14, .p (.bin .lss (T 13) (C (.int .i64 0))), none⟩,
  ⟨some 15, .p (.mov (T 14)), none⟩,
  ⟨some 16, .p (.mov (T 1)), some (15, false)⟩,
  ⟨some 17, .p (.bin .geq (T 16) (C (.int .i64 16))), some (15, false)⟩,
  ⟨some 18, .p (.pick (T 15) (C (.bool true)) (T 17)), none⟩,
  ⟨some 19, .p (.mov (T 18)), none⟩,
  ⟨some 20, .p (.mov (T 2)), some (19, false)⟩,
  ⟨some 21, .p (.bin .lss (T 20) (C (.int .i64 0))), some (19, false)⟩,
  ⟨some 22, .p (.pick (T 19) (C (.bool true)) (T 21)), none⟩,
  ⟨some 23, .p (.mov (T 22)), none⟩,
  ⟨some 24, .p (.mov (T 2)), some (23, false)⟩,
  ⟨some 25, .p (.bin .geq (T 24) (C (.int .i64 16))), some (23, false)⟩,
  ⟨some 26, .p (.pick (T 23) (C (.bool true)) (T 25)), none⟩,
  ⟨some 27, .p (.mov (T 26)), none⟩,
  ⟨some 28, .p (.mov (T 3)), some (27, false)⟩,
  ⟨some 29, .p (.lenS (T 28)), some (27, false)⟩,
  ⟨some 30, .p (.bin .gtr (T 29) (C (.int .i64 1048576))), some (27, false)⟩,
  ⟨some 31, .p (.pick (T 27) (C (.bool true)) (T 30)), none⟩]
def x_seal_Seal_1 : List XO := x_seal_Seal_1l
theorem x_seal_Seal_1e : E3 x_seal_Seal_1 x_seal_Seal_1l := E3.rfl
abbrev x_seal_Seal_2l : List XO := [
  ⟨some 8, .p (.mov (C (.string (strOf [])))), none⟩,
  ⟨some 9, .p (.mov (C (.int .i64 1))), none⟩]
def x_seal_Seal_2 : List XO := x_seal_Seal_2l
theorem x_seal_Seal_2e : E3 x_seal_Seal_2 x_seal_Seal_2l := E3.rfl
abbrev x_seal_Seal_3l : List XO := [
  ⟨some 33, .p (.mov (T 0)), none⟩,
  ⟨some 34, .p (.mov (T 1)), none⟩,
  ⟨some 35, .p (.mov (T 1)), none⟩,
  ⟨some 36, .p (.mov (T 2)), none⟩,
  ⟨some 37, .p (.mov (T 3)), none⟩,
  ⟨some 38, .call (.func 65) [(T 35), (T 36), (T 37)], none⟩,
  ⟨some 39, .call (.func 24) [(T 33), (T 34), (T 38)], none⟩,
  ⟨some 32, .p (.mov (T 39)), none⟩,
  ⟨some 40, .p (.ext (T 32) 0), none⟩,
  ⟨some 41, .p (.ext (T 32) 1), none⟩,
  ⟨some 10, .p (.mov (T 40)), none⟩,
  ⟨some 11, .p (.mov (T 41)), none⟩]
def x_seal_Seal_3 : List XO := x_seal_Seal_3l
theorem x_seal_Seal_3e : E3 x_seal_Seal_3 x_seal_Seal_3l := E3.rfl
abbrev x_seal_Seal_4l : List XO := [
  ⟨some 42, .p (.mov (T 11)), none⟩,
  ⟨some 43, .p (.eql true .int (T 42) (C (.int .i64 0))), none⟩]
def x_seal_Seal_4 : List XO := x_seal_Seal_4l
theorem x_seal_Seal_4e : E3 x_seal_Seal_4 x_seal_Seal_4l := E3.rfl
abbrev x_seal_Seal_5l : List XO := [
  ⟨some 44, .p (.mov (T 11)), none⟩,
  ⟨some 8, .p (.mov (C (.string (strOf [])))), none⟩,
  ⟨some 9, .p (.mov (T 44)), none⟩]
def x_seal_Seal_5 : List XO := x_seal_Seal_5l
theorem x_seal_Seal_5e : E3 x_seal_Seal_5 x_seal_Seal_5l := E3.rfl
abbrev x_seal_Seal_6l : List XO := [
  ⟨some 45, .call (.func 51) [], none⟩,
  ⟨some 12, .p (.mov (T 45)), none⟩]
def x_seal_Seal_6 : List XO := x_seal_Seal_6l
theorem x_seal_Seal_6e : E3 x_seal_Seal_6 x_seal_Seal_6l := E3.rfl
abbrev x_seal_Seal_7l : List XO := [
  ⟨some 46, .p (.mov (T 12)), none⟩,
  ⟨some 47, .p (.mov (T 1)), none⟩,
  ⟨some 48, .p (.cint .u64 (T 47)), none⟩,
  ⟨some 49, .call (.func 66) [(T 46), (T 48), (C (.int .i64 1))], none⟩]
def x_seal_Seal_7 : List XO := x_seal_Seal_7l
theorem x_seal_Seal_7e : E3 x_seal_Seal_7 x_seal_Seal_7l := E3.rfl
abbrev x_seal_Seal_8l : List XO := [
  ⟨some 50, .p (.mov (T 12)), none⟩,
  ⟨some 51, .p (.mov (T 2)), none⟩,
  ⟨some 52, .p (.cint .u64 (T 51)), none⟩,
  ⟨some 53, .call (.func 66) [(T 50), (T 52), (C (.int .i64 1))], none⟩]
def x_seal_Seal_8 : List XO := x_seal_Seal_8l
theorem x_seal_Seal_8e : E3 x_seal_Seal_8 x_seal_Seal_8l := E3.rfl
abbrev x_seal_Seal_9l : List XO := [
  ⟨some 54, .p (.mov (T 12)), none⟩,
  ⟨some 55, .p (.mov (T 3)), none⟩,
  ⟨some 56, .call (.func 67) [(T 54), (T 55)], none⟩]
def x_seal_Seal_9 : List XO := x_seal_Seal_9l
theorem x_seal_Seal_9e : E3 x_seal_Seal_9 x_seal_Seal_9l := E3.rfl
abbrev x_seal_Seal_10l : List XO := [
  ⟨some 57, .p (.mov (T 12)), none⟩,
  ⟨some 58, .p (.mov (T 10)), none⟩,
  ⟨some 59, .call (.func 68) [(T 57), (T 58)], none⟩]
def x_seal_Seal_10 : List XO := x_seal_Seal_10l
theorem x_seal_Seal_10e : E3 x_seal_Seal_10 x_seal_Seal_10l := E3.rfl
abbrev x_seal_Seal_11l : List XO := [
  ⟨some 60, .p (.mov (T 12)), none⟩,
  ⟨some 61, .call (.func 53) [(T 60)], none⟩,
  ⟨some 8, .p (.mov (T 61)), none⟩,
  ⟨some 9, .p (.mov (C (.int .i64 0))), none⟩]
def x_seal_Seal_11 : List XO := x_seal_Seal_11l
theorem x_seal_Seal_11e : E3 x_seal_Seal_11 x_seal_Seal_11l := E3.rfl
def x_seal_Seal : XF := ⟨4, [.tmp 8, .tmp 9],
  .seq (.ops x_seal_Seal_0) (.seq (.seq (.ops x_seal_Seal_1) (.cond (T 31) (.seq (.ops x_seal_Seal_2) (.ret)) (.skip))) (.seq (.ops x_seal_Seal_3) (.seq (.seq (.ops x_seal_Seal_4) (.cond (T 43) (.seq (.ops x_seal_Seal_5) (.ret)) (.skip))) (.seq (.ops x_seal_Seal_6) (.seq (.ops x_seal_Seal_7) (.seq (.ops x_seal_Seal_8) (.seq (.ops x_seal_Seal_9) (.seq (.ops x_seal_Seal_10) (.seq (.ops x_seal_Seal_11) (.ret))))))))))⟩
def y_seal_Seal := PLift.up (And.intro (And.intro (And.intro (@x_seal_Seal_0e) (And.intro (@x_seal_Seal_1e) (@x_seal_Seal_2e))) (And.intro (@x_seal_Seal_3e) (And.intro (@x_seal_Seal_4e) (@x_seal_Seal_5e)))) (And.intro (And.intro (@x_seal_Seal_6e) (And.intro (@x_seal_Seal_7e) (@x_seal_Seal_8e))) (And.intro (@x_seal_Seal_9e) (And.intro (@x_seal_Seal_10e) (@x_seal_Seal_11e)))))
theorem c_seal_Seal : funcC Try.prog Try.f30 = some x_seal_Seal := by kernel_rfl
/- muniment/seal.Open -/
abbrev x_seal_Open_0l : List XO := [
  ⟨some 6, .p (.mov (C (.int .i64 0))), none⟩,
  ⟨some 7, .p (.mov (C (.string (strOf [])))), none⟩,
  ⟨some 8, .p (.mov (C (.int .i64 0))), none⟩]
def x_seal_Open_0 : List XO := x_seal_Open_0l
theorem x_seal_Open_0e : E3 x_seal_Open_0 x_seal_Open_0l := E3.rfl
abbrev x_seal_Open_1l : List XO := [
  ⟨some 15, .p (.mov (T 2)), none⟩,
  ⟨some 16, .call (.func 54) [(T 15)], none⟩,
  ⟨some 9, .p (.mov (T 16)), none⟩]
def x_seal_Open_1 : List XO := x_seal_Open_1l
theorem x_seal_Open_1e : E3 x_seal_Open_1 x_seal_Open_1l := E3.rfl
abbrev x_seal_Open_2l : List XO := [
  ⟨some 17, .p (.mov (T 9)), none⟩,
  ⟨some 18, .call (.func 69) [(T 17), (C (.int .i64 1))], none⟩,
  ⟨some 19, .p (.cint .i64 (T 18)), none⟩,
  ⟨some 20, .p (.mov (T 9)), none⟩,
  ⟨some 21, .call (.func 69) [(T 20), (C (.int .i64 1))], none⟩,
  ⟨some 22, .p (.cint .i64 (T 21)), none⟩,
  ⟨some 10, .p (.mov (T 19)), none⟩,
  ⟨some 11, .p (.mov (T 22)), none⟩]
def x_seal_Open_2 : List XO := x_seal_Open_2l
theorem x_seal_Open_2e : E3 x_seal_Open_2 x_seal_Open_2l := E3.rfl
abbrev x_seal_Open_3l : List XO := [
  ⟨some 23, .p (.mov (T 9)), none⟩,
  ⟨some 24, .call (.func 70) [(T 23), (C (.int .i64 1048576))], none⟩,
  ⟨some 12, .p (.mov (T 24)), none⟩]
def x_seal_Open_3 : List XO := x_seal_Open_3l
theorem x_seal_Open_3e : E3 x_seal_Open_3 x_seal_Open_3l := E3.rfl
abbrev x_seal_Open_4l : List XO := [
  ⟨some 25, .p (.mov (T 9)), none⟩,
  ⟨some 26, .call (.func 71) [(T 25)], none⟩,
  ⟨some 13, .p (.mov (T 26)), none⟩]
def x_seal_Open_4 : List XO := x_seal_Open_4l
theorem x_seal_Open_4e : E3 x_seal_Open_4 x_seal_Open_4l := E3.rfl
abbrev x_seal_Open_5l : List XO := [
  ⟨some 27, .p (.mov (T 9)), none⟩,
  ⟨some 28, .call (.func 72) [(T 27)], none⟩,
  ⟨some 14, .p (.mov (T 28)), none⟩]
def x_seal_Open_5 : List XO := x_seal_Open_5l
theorem x_seal_Open_5e : E3 x_seal_Open_5 x_seal_Open_5l := E3.rfl
abbrev x_seal_Open_6l : List XO := [
  ⟨some 29, .p (.mov (T 14)), none⟩,
  ⟨some 30, .p (.eql true .int (T 29) (C (.int .i64 0))), none⟩]
def x_seal_Open_6 : List XO := x_seal_Open_6l
theorem x_seal_Open_6e : E3 x_seal_Open_6 x_seal_Open_6l := E3.rfl
abbrev x_seal_Open_7l : List XO := [
  ⟨some 31, .p (.mov (T 14)), none⟩,
  ⟨some 6, .p (.mov (C (.int .i64 0))), none⟩,
  ⟨some 7, .p (.mov (C (.string (strOf [])))), none⟩,
  ⟨some 8, .p (.mov (T 31)), none⟩]
def x_seal_Open_7 : List XO := x_seal_Open_7l
theorem x_seal_Open_7e : E3 x_seal_Open_7 x_seal_Open_7l := E3.rfl
abbrev x_seal_Open_8l : List XO := [
  ⟨some 32, .p (.mov (T 11)), none⟩,
  ⟨some 33, .p (.mov (T 1)), none⟩,
  ⟨some 34, .p (.eql true .int (T 32) (T 33)), none⟩,
  ⟨some 35, .p (.mov (T 34)), none⟩,
  ⟨some 36, .p (.mov (T 10)), some (35, false)⟩,
  ⟨some 37, .p (.bin .geq (T 36) (C (.int .i64 16))), some (35, false)⟩,
  ⟨some 38, .p (.pick (T 35) (C (.bool true)) (T 37)), none⟩]
def x_seal_Open_8 : List XO := x_seal_Open_8l
theorem x_seal_Open_8e : E3 x_seal_Open_8 x_seal_Open_8l := E3.rfl
abbrev x_seal_Open_9l : List XO := [
  ⟨some 6, .p (.mov (C (.int .i64 0))), none⟩,
  ⟨some 7, .p (.mov (C (.string (strOf [])))), none⟩,
  ⟨some 8, .p (.mov (C (.int .i64 6))), none⟩]
def x_seal_Open_9 : List XO := x_seal_Open_9l
theorem x_seal_Open_9e : E3 x_seal_Open_9 x_seal_Open_9l := E3.rfl
abbrev x_seal_Open_10l : List XO := [
  ⟨some 39, .p (.mov (T 0)), none⟩,
  ⟨some 40, .p (.mov (T 10)), none⟩,
  ⟨some 41, .p (.mov (T 10)), none⟩,
  ⟨some 42, .p (.mov (T 1)), none⟩,
  ⟨some 43, .p (.mov (T 12)), none⟩,
  ⟨some 44, .call (.func 65) [(T 41), (T 42), (T 43)], none⟩,
  ⟨some 45, .p (.mov (T 13)), none⟩,
  ⟨some 46, .call (.func 26) [(T 39), (T 40), (T 44), (T 45)], none⟩,
  ⟨some 47, .p (.un .not (T 46)), none⟩]
def x_seal_Open_10 : List XO := x_seal_Open_10l
theorem x_seal_Open_10e : E3 x_seal_Open_10 x_seal_Open_10l := E3.rfl
abbrev x_seal_Open_11l : List XO := [
  ⟨some 6, .p (.mov (C (.int .i64 0))), none⟩,
  ⟨some 7, .p (.mov (C (.string (strOf [])))), none⟩,
  ⟨some 8, .p (.mov (C (.int .i64 20))), none⟩]
def x_seal_Open_11 : List XO := x_seal_Open_11l
theorem x_seal_Open_11e : E3 x_seal_Open_11 x_seal_Open_11l := E3.rfl
abbrev x_seal_Open_12l : List XO := [
  ⟨some 48, .p (.mov (T 10)), none⟩,
  ⟨some 49, .p (.mov (T 12)), none⟩,
  ⟨some 6, .p (.mov (T 48)), none⟩,
  ⟨some 7, .p (.mov (T 49)), none⟩,
  ⟨some 8, .p (.mov (C (.int .i64 0))), none⟩]
def x_seal_Open_12 : List XO := x_seal_Open_12l
theorem x_seal_Open_12e : E3 x_seal_Open_12 x_seal_Open_12l := E3.rfl
def x_seal_Open : XF := ⟨3, [.tmp 6, .tmp 7, .tmp 8],
  .seq (.ops x_seal_Open_0) (.seq (.ops x_seal_Open_1) (.seq (.ops x_seal_Open_2) (.seq (.ops x_seal_Open_3) (.seq (.ops x_seal_Open_4) (.seq (.seq (.ops x_seal_Open_5) (.seq (.ops x_seal_Open_6) (.cond (T 30) (.seq (.ops x_seal_Open_7) (.ret)) (.skip)))) (.seq (.seq (.ops x_seal_Open_8) (.cond (T 38) (.seq (.ops x_seal_Open_9) (.ret)) (.skip))) (.seq (.seq (.ops x_seal_Open_10) (.cond (T 47) (.seq (.ops x_seal_Open_11) (.ret)) (.skip))) (.seq (.ops x_seal_Open_12) (.ret)))))))))⟩
def y_seal_Open := PLift.up (And.intro (And.intro (And.intro (@x_seal_Open_0e) (And.intro (@x_seal_Open_1e) (@x_seal_Open_2e))) (And.intro (@x_seal_Open_3e) (And.intro (@x_seal_Open_4e) (@x_seal_Open_5e)))) (And.intro (And.intro (@x_seal_Open_6e) (And.intro (@x_seal_Open_7e) (@x_seal_Open_8e))) (And.intro (And.intro (@x_seal_Open_9e) (@x_seal_Open_10e)) (And.intro (@x_seal_Open_11e) (@x_seal_Open_12e)))))
theorem c_seal_Open : funcC Try.prog Try.f33 = some x_seal_Open := by kernel_rfl
end Go.X
end

section
open Go Go.X
namespace Go.X
set_option linter.unusedVariables false
/-- a number's bytes, the highest first -/
def numB (n k : Nat) : List UInt8 := (List.range k).map fun i => UInt8.ofNat (n >>> (8 * (k - 1 - i)))
theorem numB_len (n k : Nat) : (numB n k).length = k := by simp [numB]
def mmV (isMax : Bool) (x : Value) : List Value → Option Value
  | [] => some x
  | y :: ys => match mm isMax x y with | some z => mmV isMax z ys | none => none
theorem p_minmax {t : Fr} {b : Bool} {x : Operand} {xs : List Operand} : pureX t (.minmax b x xs) = mmV b (t.eval x) (xs.map t.eval) := by
  simp only [pureX]
  generalize t.eval x = v
  induction xs generalizing v with
  | nil => rfl
  | cons y ys ih =>
    simp only [mms, List.map_cons, mmV]
    cases mm b v (t.eval y) with
    | none => rfl
    | some z => exact ih z
theorem mm_max {k : IntKind} {x y : Int} : mmV true (.int k x) [.int k y] = some (.int k (if y > x then y else x)) := by simp [mmV, mm]
theorem mm_min {k : IntKind} {x y : Int} : mmV false (.int k x) [.int k y] = some (.int k (if y < x then y else x)) := by simp [mmV, mm]
def wnumS : List Value → Option Value
  | [.int .u64 n, .int .i64 k] => if 0 ≤ n ∧ n < 18446744073709551616 ∧ 0 ≤ k ∧ k ≤ 8 then some (.string (strOf (numB n.toNat k.toNat))) else none
  | _ => none
theorem wnum_ok (pr : Prog) (n k : Nat) (hn : n < 18446744073709551616) (hk : k ≤ 8) (h : Heap) : Comes pr x_wire_Number [uw .u64 n, .int .i64 (k : Int)] h (.string (strOf (numB n k))) := by
  apply Comes.of
  unfold x_wire_Number
  dsimp only [initFr]
  have m1 := mm_max (k := .i64) (x := (k : Int)) (y := 0)
  have m2 := mm_min (k := .i64) (x := (k : Int)) (y := 8)
  rw [if_neg (by omega)] at m1 m2
  (repeat (first | refine wpk_seq ?_ | refine wpk_block ?_ | refine wpk_scope ?_ | refine wpk_skip ?_ | refine kont_code ?_ | refine kont_blk ?_ | refine kont_nil ?_ | refine wpk_exit ?_ | refine exit_code ?_ | refine exit_lp ?_ | refine exit_here ?_ | refine exit_there (by decide) ?_ | refine wpk_ret ?_ | ((first | refine wpk_ops ?_ | refine wpk_draw0 ?_ | refine wpk_drawS rfl rfl ?_ | refine wpk_drawC rfl ?_ | refine wpk_condE ?_); simp only [y_wire_Number.down, cintV_i, lemS.down, lemC.down, Int.reduceBEq, Nat.reduceAdd, Nat.reduceLeDiff, reduceIte, Nat.reduceEqDiff, Int.reduceLT, Int.reduceLE, Int.reduceGT, Int.reduceGE, Int.reduceEq, Int.reduceAdd, Int.reduceSub, Int.reduceMul, reduceCtorEq, lemH.down, p_minmax, m1, m2])))
  have hl : ∀ i, i ≤ k → ((numB n k).take i).length = i := fun i hi => by rw [List.length_take, numB_len]; omega
  refine wpk_loop_inv (fun m t g => ∃ i v, m = k - i ∧ i ≤ k ∧ Own g (fun A => h.next ≤ A) 1 v ((numB n k).take i).length (cellsOfBytes ((numB n k).take i)) ∧ Grows h g ∧ t.get 0 = uw .u64 n ∧ t.get 1 = .int .i64 (k : Int) ∧ t.get 5 = v ∧ t.get 9 = .int .i64 (k : Int) ∧ t.get 10 = .int .i64 (i : Int)) ?_ k _ _ ⟨0, _, rfl, by omega, Own.nil, Grows.refl h, by simp only [y_wire_Number.down, cintV_i, lemS.down, lemC.down, Int.reduceBEq, Nat.reduceAdd, Nat.reduceLeDiff, reduceIte, Nat.reduceEqDiff, Int.reduceLT, Int.reduceLE, Int.reduceGT, Int.reduceGE, Int.reduceEq, Int.reduceAdd, Int.reduceSub, Int.reduceMul, reduceCtorEq], by simp only [y_wire_Number.down, cintV_i, lemS.down, lemC.down, Int.reduceBEq, Nat.reduceAdd, Nat.reduceLeDiff, reduceIte, Nat.reduceEqDiff, Int.reduceLT, Int.reduceLE, Int.reduceGT, Int.reduceGE, Int.reduceEq, Int.reduceAdd, Int.reduceSub, Int.reduceMul, reduceCtorEq], by simp only [y_wire_Number.down, cintV_i, lemS.down, lemC.down, Int.reduceBEq, Nat.reduceAdd, Nat.reduceLeDiff, reduceIte, Nat.reduceEqDiff, Int.reduceLT, Int.reduceLE, Int.reduceGT, Int.reduceGE, Int.reduceEq, Int.reduceAdd, Int.reduceSub, Int.reduceMul, reduceCtorEq], by simp only [y_wire_Number.down, cintV_i, lemS.down, lemC.down, Int.reduceBEq, Nat.reduceAdd, Nat.reduceLeDiff, reduceIte, Nat.reduceEqDiff, Int.reduceLT, Int.reduceLE, Int.reduceGT, Int.reduceGE, Int.reduceEq, Int.reduceAdd, Int.reduceSub, Int.reduceMul, reduceCtorEq], by (simp only [y_wire_Number.down, cintV_i, lemS.down, lemC.down, Int.reduceBEq, Nat.reduceAdd, Nat.reduceLeDiff, reduceIte, Nat.reduceEqDiff, Int.reduceLT, Int.reduceLE, Int.reduceGT, Int.reduceGE, Int.reduceEq, Int.reduceAdd, Int.reduceSub, Int.reduceMul, reduceCtorEq]) <;> rfl⟩
  rintro m t g ⟨i, v, rfl, hi, gO, gg, t0, t1, t5, t9, t10⟩ hnext
  refine x_wire_Number_7k ?_
  dsimp only [x_wire_Number_7b]
  (repeat (first | refine wpk_seq ?_ | refine wpk_block ?_ | refine wpk_scope ?_ | refine wpk_skip ?_ | refine kont_code ?_ | refine kont_blk ?_ | refine kont_nil ?_ | refine wpk_exit ?_ | refine exit_code ?_ | refine exit_lp ?_ | refine exit_here ?_ | refine exit_there (by decide) ?_ | refine wpk_ret ?_ | ((first | refine wpk_ops ?_ | refine wpk_draw0 ?_ | refine wpk_drawS rfl rfl ?_ | refine wpk_drawC rfl ?_ | refine wpk_condE ?_); simp only [y_wire_Number.down, cintV_i, lemS.down, lemC.down, Int.reduceBEq, Nat.reduceAdd, Nat.reduceLeDiff, reduceIte, Nat.reduceEqDiff, Int.reduceLT, Int.reduceLE, Int.reduceGT, Int.reduceGE, Int.reduceEq, Int.reduceAdd, Int.reduceSub, Int.reduceMul, reduceCtorEq, lemH.down, t0, t1, t5, t9, t10])))
  refine ⟨fun hlt => ?_, fun hge => ?_⟩
  · have hi' : i < k := by omega
    have ww : IntKind.i64.wrap ((i : Int) + 1) = ((i + 1 : Nat) : Int) := by rw [wrap_i64 (by omega) (by omega)]; omega
    have w1 : IntKind.i64.wrap ((k : Int) - 1) = ((k - 1 : Nat) : Int) := by rw [wrap_i64 (by omega) (by omega)]; omega
    have w2 : IntKind.i64.wrap (((k - 1 : Nat) : Int) - (i : Int)) = ((k - 1 - i : Nat) : Int) := by rw [wrap_i64 (by omega) (by omega)]; omega
    have w3 : IntKind.i64.wrap (8 * ((k - 1 - i : Nat) : Int)) = ((8 * (k - 1 - i) : Nat) : Int) := by rw [wrap_i64 (by omega) (by omega)]; omega
    have sh := shrV_u64 (k' := .i64) (x := n) (n := 8 * (k - 1 - i)) (by omega)
    rw [Nat.mod_eq_of_lt hn] at sh
    have hnx := gg.next
    obtain ⟨v', g2, e2, hO2, k2⟩ := gO.push (n >>> (8 * (k - 1 - i))) (by rw [hl i hi]; unfold roomX; omega) (fun A hA => by show h.next ≤ A; omega)
    (repeat (first | refine wpk_seq ?_ | refine wpk_block ?_ | refine wpk_scope ?_ | refine wpk_skip ?_ | refine kont_code ?_ | refine kont_blk ?_ | refine kont_nil ?_ | refine wpk_exit ?_ | refine exit_code ?_ | refine exit_lp ?_ | refine exit_here ?_ | refine exit_there (by decide) ?_ | refine wpk_ret ?_ | ((first | refine wpk_ops ?_ | refine wpk_draw0 ?_ | refine wpk_drawS rfl rfl ?_ | refine wpk_drawC rfl ?_ | refine wpk_condE ?_); simp only [y_wire_Number.down, cintV_i, lemS.down, lemC.down, Int.reduceBEq, Nat.reduceAdd, Nat.reduceLeDiff, reduceIte, Nat.reduceEqDiff, Int.reduceLT, Int.reduceLE, Int.reduceGT, Int.reduceGE, Int.reduceEq, Int.reduceAdd, Int.reduceSub, Int.reduceMul, reduceCtorEq, lemH.down, lemW.down, t0, t1, t5, t9, t10, p_minmax, m2, w1, w2, w3, sh, e2, ww])))
    refine hnext (k - (i + 1)) _ _ (by omega) ⟨i + 1, v', rfl, by omega, ?_, gg.then k2 (fun A hA => by show ¬ (h.next ≤ A); omega), by simp only [y_wire_Number.down, cintV_i, lemS.down, lemC.down, Int.reduceBEq, Nat.reduceAdd, Nat.reduceLeDiff, reduceIte, Nat.reduceEqDiff, Int.reduceLT, Int.reduceLE, Int.reduceGT, Int.reduceGE, Int.reduceEq, Int.reduceAdd, Int.reduceSub, Int.reduceMul, reduceCtorEq, t0], by simp only [y_wire_Number.down, cintV_i, lemS.down, lemC.down, Int.reduceBEq, Nat.reduceAdd, Nat.reduceLeDiff, reduceIte, Nat.reduceEqDiff, Int.reduceLT, Int.reduceLE, Int.reduceGT, Int.reduceGE, Int.reduceEq, Int.reduceAdd, Int.reduceSub, Int.reduceMul, reduceCtorEq, t1], by simp only [y_wire_Number.down, cintV_i, lemS.down, lemC.down, Int.reduceBEq, Nat.reduceAdd, Nat.reduceLeDiff, reduceIte, Nat.reduceEqDiff, Int.reduceLT, Int.reduceLE, Int.reduceGT, Int.reduceGE, Int.reduceEq, Int.reduceAdd, Int.reduceSub, Int.reduceMul, reduceCtorEq], by simp only [y_wire_Number.down, cintV_i, lemS.down, lemC.down, Int.reduceBEq, Nat.reduceAdd, Nat.reduceLeDiff, reduceIte, Nat.reduceEqDiff, Int.reduceLT, Int.reduceLE, Int.reduceGT, Int.reduceGE, Int.reduceEq, Int.reduceAdd, Int.reduceSub, Int.reduceMul, reduceCtorEq, t9], by simp only [y_wire_Number.down, cintV_i, lemS.down, lemC.down, Int.reduceBEq, Nat.reduceAdd, Nat.reduceLeDiff, reduceIte, Nat.reduceEqDiff, Int.reduceLT, Int.reduceLE, Int.reduceGT, Int.reduceGE, Int.reduceEq, Int.reduceAdd, Int.reduceSub, Int.reduceMul, reduceCtorEq]⟩
    rw [List.take_succ_eq_append_getElem (by rw [numB_len]; exact hi')]
    have : (numB n k)[i]'(by rw [numB_len]; exact hi') = UInt8.ofNat (n >>> (8 * (k - 1 - i))) := by simp [numB]
    rw [this]
    exact hO2
  · obtain rfl : i = k := by omega
    rw [List.take_of_length_le (by rw [numB_len]; exact Nat.le_refl _)] at gO
    (repeat (first | refine wpk_seq ?_ | refine wpk_block ?_ | refine wpk_scope ?_ | refine wpk_skip ?_ | refine kont_code ?_ | refine kont_blk ?_ | refine kont_nil ?_ | refine wpk_exit ?_ | refine exit_code ?_ | refine exit_lp ?_ | refine exit_here ?_ | refine exit_there (by decide) ?_ | refine wpk_ret ?_ | ((first | refine wpk_ops ?_ | refine wpk_draw0 ?_ | refine wpk_drawS rfl rfl ?_ | refine wpk_drawC rfl ?_ | refine wpk_condE ?_); simp only [y_wire_Number.down, cintV_i, lemS.down, lemC.down, Int.reduceBEq, Nat.reduceAdd, Nat.reduceLeDiff, reduceIte, Nat.reduceEqDiff, Int.reduceLT, Int.reduceLE, Int.reduceGT, Int.reduceGE, Int.reduceEq, Int.reduceAdd, Int.reduceSub, Int.reduceMul, reduceCtorEq, lemH.down, t0, t1, t5, t9, t10, gO.cb2s])))
    exact ⟨.inr rfl, by simp only [y_wire_Number.down, cintV_i, lemS.down, lemC.down, Int.reduceBEq, Nat.reduceAdd, Nat.reduceLeDiff, reduceIte, Nat.reduceEqDiff, Int.reduceLT, Int.reduceLE, Int.reduceGT, Int.reduceGE, Int.reduceEq, Int.reduceAdd, Int.reduceSub, Int.reduceMul, reduceCtorEq], gg⟩
end Go.X
end

section
open Go Go.X
namespace Go.X
set_option linter.unusedVariables false
/-- a writer that holds those bytes -/
def Wr (h : Heap) (W N : Nat) (b : List UInt8) : Prop := N ≤ W ∧ ∃ v, Var h W [v] ∧ Own h (fun A => N ≤ A ∧ A ≠ W) 1 v b.length (cellsOfBytes b)
theorem Wr.keep {K : Nat → Prop} {h h' : Heap} {W N : Nat} {b : List UInt8} (hw : Wr h W N b) (hk : Keeps K h h') (hK : ∀ A, N ≤ A → ¬ K A) : Wr h' W N b := by
  obtain ⟨h1, v, h2, h3⟩ := hw
  exact ⟨h1, v, h2.keep hk (hK W h1), h3.keep hk fun A hA => hK A hA.1⟩
theorem Wr.grow {h h' : Heap} {W N : Nat} {b : List UInt8} (hw : Wr h W N b) (hg : Grows h h') : Wr h' W N b := hw.keep (K := none1) hg.keeps (fun _ _ => id)
theorem wnumS_ok {args : List Value} {v : Value} (h : wnumS args = some v) : args.length = 2 ∧ flatV v = true ∧ ∀ pr h, Comes pr x_wire_Number args h v := by
  unfold wnumS at h
  split at h
  · rename_i n k
    split at h
    · rename_i hc
      cases h
      refine ⟨rfl, rfl, fun pr h => ?_⟩
      have := wnum_ok pr n.toNat k.toNat (by omega) (by omega) h
      rw [show (k.toNat : Int) = k by omega] at this
      have e : uw .u64 n.toNat = .int .u64 n := by unfold uw; rw [u64_bits, Nat.mod_eq_of_lt (by omega)]; congr 1; omega
      rw [e] at this
      exact this
    · cases h
  · cases h
theorem wnumS_at {n k : Nat} (hn : n < 18446744073709551616) (hk : k ≤ 8) : wnumS [uw .u64 n, .int .i64 (OfNat.ofNat k)] = some (.string (strOf (numB n k))) := by
  have e : (OfNat.ofNat k : Int) = (k : Int) := rfl
  have e2 : uw .u64 n = .int .u64 (n : Int) := (nat_u64 hn).symm
  rw [e2, e]
  simp only [wnumS]
  rw [if_pos (by omega)]
  simp
/-- the functions of the wire, as they stand in the table -/
structure WireTab (pr : Prog) : Prop where
  num : pr.prim 90 = some (pureG wnumS)
  newW : pr.prim 51 = none
  newWC : pr.code 51 = some x_wire_NewWriter
  wb : pr.prim 91 = none
  wbC : pr.code 91 = some x_wire_Writer_Bytes
  wn : pr.prim 66 = none
  wnC : pr.code 66 = some x_wire_Writer_Number
  wc : pr.prim 92 = none
  wcC : pr.code 92 = some x_wire_Writer_Count
  wt : pr.prim 67 = none
  wtC : pr.code 67 = some x_wire_Writer_Text
  wh : pr.prim 68 = none
  whC : pr.code 68 = some x_wire_Writer_Hash
  wa : pr.prim 53 = none
  waC : pr.code 53 = some x_wire_Writer_All
  newR : pr.prim 54 = none
  newRC : pr.code 54 = some x_wire_NewReader
  rn : pr.prim 69 = none
  rnC : pr.code 69 = some x_wire_Reader_Number
  rb : pr.prim 93 = none
  rbC : pr.code 93 = some x_wire_Reader_Bytes
  rc : pr.prim 94 = none
  rcC : pr.code 94 = some x_wire_Reader_Count
  rt : pr.prim 70 = none
  rtC : pr.code 70 = some x_wire_Reader_Text
  rh : pr.prim 71 = none
  rhC : pr.code 71 = some x_wire_Reader_Hash
  re : pr.prim 72 = none
  reC : pr.code 72 = some x_wire_Reader_End
  rf : pr.prim 84 = none
  rfC : pr.code 84 = some x_wire_Reader_Fail
  rl : pr.prim 56 = none
  rlC : pr.code 56 = some x_wire_Reader_Left
  rr : pr.prim 57 = none
  rrC : pr.code 57 = some x_wire_Reader_Err
  ra : pr.prim 58 = none
  raC : pr.code 58 = some x_wire_Reader_At
theorem NewWriter_run {pr : Prog} (T : WireTab pr) (h : Heap) : ∃ h', cfi pr 51 [] h = some (.pointer (some ⟨h.next, 0, none⟩), h') ∧ Wr h' h.next h.next [] ∧ Grows h h' := by
  have : ∃ v h', cfi pr 51 [] h = some (v, h') ∧ v = .pointer (some ⟨h.next, 0, none⟩) ∧ Wr h' h.next h.next [] ∧ Grows h h' := by
    refine cfi_wp T.newW T.newWC rfl ?_
    unfold x_wire_NewWriter
    dsimp only [initFr]
    refine wpk.out (k := []) ?_
    have hz : aggV (fillV [.slice none 0 0] []) = some (.agg [Value.slice none 0 0].toArray) := rfl
    (repeat (first | refine wpk_seq ?_ | refine wpk_block ?_ | refine wpk_scope ?_ | refine wpk_skip ?_ | refine kont_code ?_ | refine kont_blk ?_ | refine kont_nil ?_ | refine wpk_exit ?_ | refine exit_code ?_ | refine exit_lp ?_ | refine exit_here ?_ | refine exit_there (by decide) ?_ | refine wpk_ret ?_ | ((first | refine wpk_ops ?_ | refine wpk_draw0 ?_ | refine wpk_drawS rfl rfl ?_ | refine wpk_drawC rfl ?_ | refine wpk_condE ?_); simp only [y_wire_NewWriter.down, cintV_i, lemS.down, lemC.down, Int.reduceBEq, Nat.reduceAdd, Nat.reduceLeDiff, reduceIte, Nat.reduceEqDiff, Int.reduceLT, Int.reduceLE, Int.reduceGT, Int.reduceGE, Int.reduceEq, Int.reduceAdd, Int.reduceSub, Int.reduceMul, reduceCtorEq, lemH.down, hz])))
    exact ⟨.inr rfl, _, rfl, by simp only [y_wire_NewWriter.down, cintV_i, lemS.down, lemC.down, Int.reduceBEq, Nat.reduceAdd, Nat.reduceLeDiff, reduceIte, Nat.reduceEqDiff, Int.reduceLT, Int.reduceLE, Int.reduceGT, Int.reduceGE, Int.reduceEq, Int.reduceAdd, Int.reduceSub, Int.reduceMul, reduceCtorEq], ⟨Nat.le_refl _, _, Var.new_self, Own.nil⟩, Grows.new⟩
  obtain ⟨v, h', e, rfl, r⟩ := this
  exact ⟨h', e, r⟩
theorem WBytes_run {pr : Prog} (T : WireTab pr) {h : Heap} {W N : Nat} {b : List UInt8} (hw : Wr h W N b) (s : List UInt8) (hroom : b.length + s.length ≤ roomX) :
    ∃ h', cfi pr 91 [.pointer (some ⟨W, 0, none⟩), .string (strOf s)] h = some (.tuple #[], h') ∧ Wr h' W N (b ++ s) ∧ Keeps (fun A => N ≤ A) h h' := by
  have : ∃ v h', cfi pr 91 [.pointer (some ⟨W, 0, none⟩), .string (strOf s)] h = some (v, h') ∧ v = .tuple #[] ∧ Wr h' W N (b ++ s) ∧ Keeps (fun A => N ≤ A) h h' := by
    refine cfi_wp T.wb T.wbC rfl ?_
    unfold x_wire_Writer_Bytes
    dsimp only [initFr]
    refine wpk.out (k := []) ?_
    obtain ⟨hN, v, hV, hO⟩ := hw
    have hlt := hV.1
    obtain ⟨v2, h2, e2, hO2, k2⟩ := hO.append (bytes := 1) (m := s.length) (new := cellsOfBytes s) (by simp [cellsOfBytes_len]) cellsOfBytes_all (by decide) (by decide) (by omega)
    have hV2 := hV.keep k2 (fun e => e.2 rfl)
    have st := hO2.store (i := 0) hV2 (by simp)
    simp only [List.set_cons_zero] at st
    (repeat (first | refine wpk_seq ?_ | refine wpk_block ?_ | refine wpk_scope ?_ | refine wpk_skip ?_ | refine kont_code ?_ | refine kont_blk ?_ | refine kont_nil ?_ | refine wpk_exit ?_ | refine exit_code ?_ | refine exit_lp ?_ | refine exit_here ?_ | refine exit_there (by decide) ?_ | refine wpk_ret ?_ | ((first | refine wpk_ops ?_ | refine wpk_draw0 ?_ | refine wpk_drawS rfl rfl ?_ | refine wpk_drawC rfl ?_ | refine wpk_condE ?_); simp only [y_wire_Writer_Bytes.down, cintV_i, lemS.down, lemC.down, Int.reduceBEq, Nat.reduceAdd, Nat.reduceLeDiff, reduceIte, Nat.reduceEqDiff, Int.reduceLT, Int.reduceLE, Int.reduceGT, Int.reduceGE, Int.reduceEq, Int.reduceAdd, Int.reduceSub, Int.reduceMul, reduceCtorEq, lemH.down, eqX_pn, hV.load, List.getElem?_cons_zero, e2, st])))
    refine ⟨.inl rfl, _, rfl, rfl, ⟨hN, v2, hV2.wr, ?_⟩, (k2.mono fun A _ e => e.1).trans Keeps.wr (fun A _ e => e ▸ hN)⟩
    rw [List.length_append, cellsOfBytes_app]
    refine (hO2.mono fun A hA => ?_).keep Keeps.wr (fun A hA => hA.2)
    rcases hA with hA | hA
    · exact hA
    · exact ⟨by omega, by omega⟩
  obtain ⟨v, h', e, rfl, r⟩ := this
  exact ⟨h', e, r⟩
theorem WNumber_run {pr : Prog} (T : WireTab pr) {h : Heap} {W N : Nat} {b : List UInt8} (hw : Wr h W N b) (n k : Nat) (hn : n < 18446744073709551616) (hk : k ≤ 8) (hroom : b.length + 8 ≤ roomX) :
    ∃ h', cfi pr 66 [.pointer (some ⟨W, 0, none⟩), uw .u64 n, .int .i64 (OfNat.ofNat k)] h = some (.tuple #[], h') ∧ Wr h' W N (b ++ numB n k) ∧ Keeps (fun A => N ≤ A) h h' := by
  have : ∃ v h', cfi pr 66 [.pointer (some ⟨W, 0, none⟩), uw .u64 n, .int .i64 (OfNat.ofNat k)] h = some (v, h') ∧ v = .tuple #[] ∧ Wr h' W N (b ++ numB n k) ∧ Keeps (fun A => N ≤ A) h h' := by
    refine cfi_wp T.wn T.wnC rfl ?_
    unfold x_wire_Writer_Number
    dsimp only [initFr]
    refine wpk.out (k := []) ?_
    have c1 := cfi_pure (h := h) T.num (wnumS_at hn hk)
    obtain ⟨h2, e2, w2, k2⟩ := WBytes_run T hw (numB n k) (by rw [numB_len]; omega)
    (repeat (first | refine wpk_seq ?_ | refine wpk_block ?_ | refine wpk_scope ?_ | refine wpk_skip ?_ | refine kont_code ?_ | refine kont_blk ?_ | refine kont_nil ?_ | refine wpk_exit ?_ | refine exit_code ?_ | refine exit_lp ?_ | refine exit_here ?_ | refine exit_there (by decide) ?_ | refine wpk_ret ?_ | ((first | refine wpk_ops ?_ | refine wpk_draw0 ?_ | refine wpk_drawS rfl rfl ?_ | refine wpk_drawC rfl ?_ | refine wpk_condE ?_); simp only [y_wire_Writer_Number.down, cintV_i, lemS.down, lemC.down, Int.reduceBEq, Nat.reduceAdd, Nat.reduceLeDiff, reduceIte, Nat.reduceEqDiff, Int.reduceLT, Int.reduceLE, Int.reduceGT, Int.reduceGE, Int.reduceEq, Int.reduceAdd, Int.reduceSub, Int.reduceMul, reduceCtorEq, lemH.down, c1, e2])))
    exact ⟨.inl rfl, _, rfl, rfl, w2, k2⟩
  obtain ⟨v, h', e, rfl, r⟩ := this
  exact ⟨h', e, r⟩
theorem WCount_run {pr : Prog} (T : WireTab pr) {h : Heap} {W N : Nat} {b : List UInt8} (hw : Wr h W N b) (n : Nat) (hn : n < 9223372036854775808) (hroom : b.length + 8 ≤ roomX) :
    ∃ h', cfi pr 92 [.pointer (some ⟨W, 0, none⟩), .int .i64 (n : Int)] h = some (.tuple #[], h') ∧ Wr h' W N (b ++ numB n 4) ∧ Keeps (fun A => N ≤ A) h h' := by
  have : ∃ v h', cfi pr 92 [.pointer (some ⟨W, 0, none⟩), .int .i64 (n : Int)] h = some (v, h') ∧ v = .tuple #[] ∧ Wr h' W N (b ++ numB n 4) ∧ Keeps (fun A => N ≤ A) h h' := by
    refine cfi_wp T.wc T.wcC rfl ?_
    unfold x_wire_Writer_Count
    dsimp only [initFr]
    refine wpk.out (k := []) ?_
    have m1 := mm_max (k := .i64) (x := (n : Int)) (y := 0)
    rw [if_neg (by omega)] at m1
    have c := uw_cint (k := .u64) (k' := .i64) u64_signed (n := n)
    obtain ⟨h2, e2, w2, k2⟩ := WNumber_run T hw n 4 (by omega) (by decide) hroom
    have e2 : cfi pr 66 [.pointer (some ⟨W, 0, none⟩), uw .u64 n, .int .i64 4] h = some (.tuple #[], h2) := e2
    (repeat (first | refine wpk_seq ?_ | refine wpk_block ?_ | refine wpk_scope ?_ | refine wpk_skip ?_ | refine kont_code ?_ | refine kont_blk ?_ | refine kont_nil ?_ | refine wpk_exit ?_ | refine exit_code ?_ | refine exit_lp ?_ | refine exit_here ?_ | refine exit_there (by decide) ?_ | refine wpk_ret ?_ | ((first | refine wpk_ops ?_ | refine wpk_draw0 ?_ | refine wpk_drawS rfl rfl ?_ | refine wpk_drawC rfl ?_ | refine wpk_condE ?_); simp only [y_wire_Writer_Count.down, cintV_i, lemS.down, lemC.down, Int.reduceBEq, Nat.reduceAdd, Nat.reduceLeDiff, reduceIte, Nat.reduceEqDiff, Int.reduceLT, Int.reduceLE, Int.reduceGT, Int.reduceGE, Int.reduceEq, Int.reduceAdd, Int.reduceSub, Int.reduceMul, reduceCtorEq, lemH.down, p_minmax, m1, c, e2])))
    exact ⟨.inl rfl, _, rfl, rfl, w2, k2⟩
  obtain ⟨v, h', e, rfl, r⟩ := this
  exact ⟨h', e, r⟩
theorem WText_run {pr : Prog} (T : WireTab pr) {h : Heap} {W N : Nat} {b : List UInt8} (hw : Wr h W N b) (s : List UInt8) (hroom : b.length + s.length + 8 ≤ roomX) :
    ∃ h', cfi pr 67 [.pointer (some ⟨W, 0, none⟩), .string (strOf s)] h = some (.tuple #[], h') ∧ Wr h' W N (b ++ numB s.length 4 ++ s) ∧ Keeps (fun A => N ≤ A) h h' := by
  have : ∃ v h', cfi pr 67 [.pointer (some ⟨W, 0, none⟩), .string (strOf s)] h = some (v, h') ∧ v = .tuple #[] ∧ Wr h' W N (b ++ numB s.length 4 ++ s) ∧ Keeps (fun A => N ≤ A) h h' := by
    refine cfi_wp T.wt T.wtC rfl ?_
    unfold x_wire_Writer_Text
    dsimp only [initFr]
    refine wpk.out (k := []) ?_
    have hr64 : roomX = 140737488355328 := rfl
    obtain ⟨h2, e2, w2, k2⟩ := WCount_run T hw s.length (by omega) (by omega)
    obtain ⟨h3, e3, w3, k3⟩ := WBytes_run T w2 s (by rw [List.length_append, numB_len]; omega)
    (repeat (first | refine wpk_seq ?_ | refine wpk_block ?_ | refine wpk_scope ?_ | refine wpk_skip ?_ | refine kont_code ?_ | refine kont_blk ?_ | refine kont_nil ?_ | refine wpk_exit ?_ | refine exit_code ?_ | refine exit_lp ?_ | refine exit_here ?_ | refine exit_there (by decide) ?_ | refine wpk_ret ?_ | ((first | refine wpk_ops ?_ | refine wpk_draw0 ?_ | refine wpk_drawS rfl rfl ?_ | refine wpk_drawC rfl ?_ | refine wpk_condE ?_); simp only [y_wire_Writer_Text.down, cintV_i, lemS.down, lemC.down, Int.reduceBEq, Nat.reduceAdd, Nat.reduceLeDiff, reduceIte, Nat.reduceEqDiff, Int.reduceLT, Int.reduceLE, Int.reduceGT, Int.reduceGE, Int.reduceEq, Int.reduceAdd, Int.reduceSub, Int.reduceMul, reduceCtorEq, lemH.down, e2, e3])))
    exact ⟨.inl rfl, _, rfl, rfl, w3, k2.trans k3 (fun _ _ e => e)⟩
  obtain ⟨v, h', e, rfl, r⟩ := this
  exact ⟨h', e, r⟩
theorem WAll_run {pr : Prog} (T : WireTab pr) {h : Heap} {W N : Nat} {b : List UInt8} (hw : Wr h W N b) : cfi pr 53 [.pointer (some ⟨W, 0, none⟩)] h = some (.string (strOf b), h) := by
  refine cfi_code T.wa T.waC rfl ?_
  unfold x_wire_Writer_All
  dsimp only [initFr]
  refine wpk.out (k := []) ?_
  obtain ⟨hN, v, hV, hO⟩ := hw
  (repeat (first | refine wpk_seq ?_ | refine wpk_block ?_ | refine wpk_scope ?_ | refine wpk_skip ?_ | refine kont_code ?_ | refine kont_blk ?_ | refine kont_nil ?_ | refine wpk_exit ?_ | refine exit_code ?_ | refine exit_lp ?_ | refine exit_here ?_ | refine exit_there (by decide) ?_ | refine wpk_ret ?_ | ((first | refine wpk_ops ?_ | refine wpk_draw0 ?_ | refine wpk_drawS rfl rfl ?_ | refine wpk_drawC rfl ?_ | refine wpk_condE ?_); simp only [y_wire_Writer_All.down, cintV_i, lemS.down, lemC.down, Int.reduceBEq, Nat.reduceAdd, Nat.reduceLeDiff, reduceIte, Nat.reduceEqDiff, Int.reduceLT, Int.reduceLE, Int.reduceGT, Int.reduceGE, Int.reduceEq, Int.reduceAdd, Int.reduceSub, Int.reduceMul, reduceCtorEq, lemH.down, eqX_pn, hV.load, List.getElem?_cons_zero, hO.cb2s])))
  exact ⟨.inr rfl, by simp only [y_wire_Writer_All.down, cintV_i, lemS.down, lemC.down, Int.reduceBEq, Nat.reduceAdd, Nat.reduceLeDiff, reduceIte, Nat.reduceEqDiff, Int.reduceLT, Int.reduceLE, Int.reduceGT, Int.reduceGE, Int.reduceEq, Int.reduceAdd, Int.reduceSub, Int.reduceMul, reduceCtorEq], rfl⟩
end Go.X
end

section
open Go Go.X
namespace Go.X
set_option linter.unusedVariables false
def mksliceV (zero : List Value) (bytes : Nat) (l c : Value) : Option (NBlk × Mk) := match l, c with
  | .int _ l, .int _ c => if 0 ≤ l ∧ l ≤ c ∧ c.toNat * bytes ≤ roomX ∧ c < 140737488355328 then some (.cells (List.replicate c.toNat zero).flatten, .slice l.toNat c.toNat none) else none
  | _, _ => none
theorem al_mkslice {t : Fr} {z : List Value} {b : Nat} {l c : Operand} : allocX t (.mkslice z b l c) = mksliceV z b (t.eval l) (t.eval c) := by
  simp only [allocX, mksliceV]
  cases t.eval l <;> try rfl
def srcV (h : Heap) (esz : Nat) : Value → Option (Nat × List Value)
  | .string str => if esz = 1 then some (str.data.toList.length, cellsOfBytes str.data.toList) else none
  | .slice none n _ => if n = 0 then some (0, []) else none
  | .slice (some a) n _ => if n = 0 then some (0, []) else match h.loadN a (n * esz) with | some l => some (n, l) | none => none
  | _ => none
def copyV (h : Heap) (esz : Nat) (d : Value) (s : Option (Nat × List Value)) : Option (Value × Heap) := match d, s with
  | .slice base dl _, some (n, l) =>
      if min n dl = 0 then some (.int .i64 0, h) else
      (match base with
      | some a => (match h.store ⟨a.block, a.off, none⟩ (l.take (min n dl * esz)) with | some h => some (.int .i64 ((min n dl : Nat) : Int), h) | none => none)
      | none => none)
  | _, _ => none
theorem e_copyV {t : Fr} {h : Heap} {esz : Nat} {d s : Operand} : effX t h (.copy esz d s) = copyV h esz (t.eval d) (srcV h esz (t.eval s)) := by
  have e : srcX t h esz s = srcV h esz (t.eval s) := by
    simp only [srcX, srcV]
    cases t.eval s with
    | slice a n c =>
      cases a with
      | none => rfl
      | some a =>
        dsimp only
        cases h.loadN a (n * esz) <;> rfl
    | _ => rfl
  simp only [effX, copyV, e]
  cases t.eval d with
  | slice a n c =>
    cases srcV h esz (t.eval s) with
    | none => rfl
    | some q =>
      obtain ⟨m, l⟩ := q
      dsimp only
      split
      · rfl
      · cases a with
        | none => rfl
        | some a => dsimp only; cases h.store ⟨a.block, a.off, none⟩ (l.take (min m n * esz)) <;> rfl
  | _ => rfl
theorem Var.cb2s {h : Heap} {A n c : Nat} {sp : Option Nat} {b : List UInt8} (hv : Var h A (cellsOfBytes b)) (hn : b.length = n) : cb2sV h (.slice (some ⟨A, 0, sp⟩) n c) = some (.string (strOf b)) := by
  simp only [cb2sV]
  by_cases h0 : n = 0
  · rw [if_pos h0]
    obtain rfl : b = [] := List.eq_nil_of_length_eq_zero (by omega)
    rfl
  · rw [if_neg h0, hv.loadAll (by rw [cellsOfBytes_len]; exact hn)]
    simp only [bytesOf_cells]
/-- a digest's bytes: cut, or filled with noughts -/
def hashB (s : List UInt8) : List UInt8 := (s ++ List.replicate 32 0).take 32
theorem hashB_len (s : List UInt8) : (hashB s).length = 32 := by simp [hashB]
theorem hashB_32 {s : List UInt8} (h : s.length = 32) : hashB s = s := by simp [hashB, ← h]
theorem WHash_run {pr : Prog} (T : WireTab pr) {h : Heap} {W N : Nat} {b : List UInt8} (hw : Wr h W N b) (s : List UInt8) (hroom : b.length + 40 ≤ roomX) :
    ∃ h', cfi pr 68 [.pointer (some ⟨W, 0, none⟩), .string (strOf s)] h = some (.tuple #[], h') ∧ Wr h' W N (b ++ hashB s) ∧ Keeps (fun A => N ≤ A) h h' := by
  have : ∃ v h', cfi pr 68 [.pointer (some ⟨W, 0, none⟩), .string (strOf s)] h = some (v, h') ∧ v = .tuple #[] ∧ Wr h' W N (b ++ hashB s) ∧ Keeps (fun A => N ≤ A) h h' := by
    refine cfi_wp T.wh T.whC rfl ?_
    unfold x_wire_Writer_Hash
    dsimp only [initFr]
    refine wpk.out (k := []) ?_
    have hWlt : W < h.next := by obtain ⟨_, v, h2, _⟩ := hw; exact h2.1
    have mk : mksliceV [.int .u8 0] 1 (.int .i64 32) (.int .i64 32) = some (.cells (cellsOfBytes (List.replicate 32 0)), .slice 32 32 none) := by
      simp only [mksliceV]
      rw [if_pos (by decide)]
      rfl
    have hV : Var (h.new (cellsOfBytes (List.replicate 32 0))) h.next (cellsOfBytes (List.replicate 32 0)) := Var.new_self
    have cp : ∃ h2 r, copyV (h.new (cellsOfBytes (List.replicate 32 0))) 1 (.slice (some ⟨h.next, 0, none⟩) 32 32) (srcV (h.new (cellsOfBytes (List.replicate 32 0))) 1 (.string (strOf s))) = some (r, h2) ∧ Var h2 h.next (cellsOfBytes (hashB s)) ∧ Grows h h2 := by
      simp only [srcV, data_strOf, if_true, copyV]
      by_cases h0 : min s.length 32 = 0
      · rw [if_pos h0]
        obtain rfl : s = [] := List.eq_nil_of_length_eq_zero (by omega)
        exact ⟨_, _, rfl, hV, Grows.new⟩
      · rw [if_neg h0, hV.store (by simp [cellsOfBytes_len]; omega) (by rw [cellsOfBytes_take]; exact cellsOfBytes_all)]
        refine ⟨_, _, rfl, ?_, Grows.new.wr (Nat.le_refl _)⟩
        have e : putN (cellsOfBytes (List.replicate 32 0)) 0 (List.take (min s.length 32 * 1) (cellsOfBytes s)) = cellsOfBytes (hashB s) := by
          simp only [putN, cellsOfBytes_take, List.take_zero, List.nil_append, Nat.mul_one, Nat.zero_add, cellsOfBytes_len, cellsOfBytes_drop, ← cellsOfBytes_app]
          congr 1
          unfold hashB
          rw [List.take_append, List.length_take, List.drop_replicate]
          by_cases hs : s.length ≤ 32
          · rw [List.take_of_length_le (l := s) (by omega), List.take_of_length_le (l := s) (by omega), List.take_replicate]
            congr 2; omega
          · have e1 : min s.length 32 = 32 := by omega
            rw [e1, show (32 : Nat) - s.length = 0 by omega, show min 32 s.length = 32 by omega]
            simp
        rw [e]
        exact hV.wr
    obtain ⟨h2, r, e2, hV2, g2⟩ := cp
    obtain ⟨h3, e3, w3, k3⟩ := WBytes_run T (hw.grow g2) (hashB s) (by rw [hashB_len]; omega)
    (repeat (first | refine wpk_seq ?_ | refine wpk_block ?_ | refine wpk_scope ?_ | refine wpk_skip ?_ | refine kont_code ?_ | refine kont_blk ?_ | refine kont_nil ?_ | refine wpk_exit ?_ | refine exit_code ?_ | refine exit_lp ?_ | refine exit_here ?_ | refine exit_there (by decide) ?_ | refine wpk_ret ?_ | ((first | refine wpk_ops ?_ | refine wpk_draw0 ?_ | refine wpk_drawS rfl rfl ?_ | refine wpk_drawC rfl ?_ | refine wpk_condE ?_); simp only [y_wire_Writer_Hash.down, cintV_i, lemS.down, lemC.down, Int.reduceBEq, Nat.reduceAdd, Nat.reduceLeDiff, reduceIte, Nat.reduceEqDiff, Int.reduceLT, Int.reduceLE, Int.reduceGT, Int.reduceGE, Int.reduceEq, Int.reduceAdd, Int.reduceSub, Int.reduceMul, reduceCtorEq, lemH.down, al_mkslice, mk, e_copyV, e2, hV2.cb2s (hashB_len s), e3])))
    exact ⟨.inl rfl, _, rfl, rfl, w3, Keeps.trans g2.keeps k3 (fun _ _ e => e)⟩
  obtain ⟨v, h', e, rfl, r⟩ := this
  exact ⟨h', e, r⟩
end Go.X
end

section
open Go Go.X
namespace Go.X
set_option linter.unusedVariables false
/-- a reader's state: the bytes, how many were taken, the error -/
structure RS where
  s : List UInt8
  pos : Nat
  err : Nat
def RS.ok (r : RS) : Prop := r.pos ≤ r.s.length ∧ r.s.length ≤ roomX
def bytesR (r : RS) (n : Int) : RS × List UInt8 :=
  if r.err ≠ 0 then (r, []) else if n < 0 then (⟨r.s, r.pos, 1⟩, []) else if (r.s.length : Int) - r.pos < n then (⟨r.s, r.pos, 4⟩, []) else (⟨r.s, r.pos + n.toNat, r.err⟩, (r.s.drop r.pos).take n.toNat)
theorem bytesR_ok {r : RS} (hr : r.ok) (n : Int) : (bytesR r n).1.ok := by
  unfold bytesR
  split
  · exact hr
  · split
    · exact hr
    · split
      · exact hr
      · refine ⟨?_, hr.2⟩
        show r.pos + n.toNat ≤ r.s.length
        omega
theorem bytesR_s (r : RS) (n : Int) : (bytesR r n).1.s = r.s := by
  unfold bytesR
  split
  · rfl
  · split
    · rfl
    · split <;> rfl
def rcells (r : RS) : List Value := [.string (strOf r.s), .int .i64 (r.pos : Int), .int .i64 (r.err : Int)]
def Rd (h : Heap) (R : Nat) (r : RS) : Prop := r.ok ∧ Var h R (rcells r)
theorem Rd.keep {K : Nat → Prop} {h h' : Heap} {R : Nat} {r : RS} (hw : Rd h R r) (hk : Keeps K h h') (hK : ¬ K R) : Rd h' R r := ⟨hw.1, hw.2.keep hk hK⟩
theorem Rd.grow {h h' : Heap} {R : Nat} {r : RS} (hw : Rd h R r) (hg : Grows h h') : Rd h' R r := ⟨hw.1, hw.2.grow hg⟩
section
variable {h : Heap} {R : Nat} {r : RS}
theorem Rd.l0 (hr : Rd h R r) : ∀ sp, h.load ⟨R, 0, sp⟩ = some (.string (strOf r.s)) := fun sp => hr.2.load
theorem Rd.l1 (hr : Rd h R r) : ∀ sp, h.load ⟨R, 1, sp⟩ = some (.int .i64 (r.pos : Int)) := fun sp => hr.2.load
theorem Rd.l2 (hr : Rd h R r) : ∀ sp, h.load ⟨R, 2, sp⟩ = some (.int .i64 (r.err : Int)) := fun sp => hr.2.load
theorem Rd.s1 (hr : Rd h R r) (n : Nat) : storeV h 1 (.pointer (some ⟨R, 1, none⟩)) (.int .i64 (n : Int)) = some (.tuple #[], h.wr R (rcells ⟨r.s, n, r.err⟩)) := by
  rw [storeV_one rfl, hr.2.store1 (by simp [rcells]) rfl]; rfl
theorem Rd.s2 (hr : Rd h R r) (n : Nat) : storeV h 1 (.pointer (some ⟨R, 2, none⟩)) (.int .i64 (n : Int)) = some (.tuple #[], h.wr R (rcells ⟨r.s, r.pos, n⟩)) := by
  rw [storeV_one rfl, hr.2.store1 (by simp [rcells]) rfl]; rfl
theorem Rd.s2L (hr : Rd h R r) (n : Nat) : storeV h 1 (.pointer (some ⟨R, 2, none⟩)) (.int .i64 (OfNat.ofNat n)) = some (.tuple #[], h.wr R (rcells ⟨r.s, r.pos, n⟩)) := hr.s2 n
theorem Rd.wr (hr : Rd h R r) {q : RS} (hq : q.ok) : Rd (h.wr R (rcells q)) R q := ⟨hq, hr.2.wr⟩
theorem NewReader_run {pr : Prog} (T : WireTab pr) (h : Heap) (s : List UInt8) (hs : s.length ≤ roomX) : ∃ h', cfi pr 54 [.string (strOf s)] h = some (.pointer (some ⟨h.next, 0, none⟩), h') ∧ Rd h' h.next ⟨s, 0, 0⟩ ∧ Grows h h' := by
  have : ∃ v h', cfi pr 54 [.string (strOf s)] h = some (v, h') ∧ v = .pointer (some ⟨h.next, 0, none⟩) ∧ Rd h' h.next ⟨s, 0, 0⟩ ∧ Grows h h' := by
    refine cfi_wp T.newR T.newRC rfl ?_
    unfold x_wire_NewReader
    dsimp only [initFr]
    refine wpk.out (k := []) ?_
    have hz : aggV (fillV [.string (strOf []), .int .i64 0, .int .i64 0] [(0, 1, .string (strOf s))]) = some (.agg (rcells ⟨s, 0, 0⟩).toArray) := by
      simp [fillV, cellsOf_str, putN, rcells, aggV]
    (repeat (first | refine wpk_seq ?_ | refine wpk_block ?_ | refine wpk_scope ?_ | refine wpk_skip ?_ | refine kont_code ?_ | refine kont_blk ?_ | refine kont_nil ?_ | refine wpk_exit ?_ | refine exit_code ?_ | refine exit_lp ?_ | refine exit_here ?_ | refine exit_there (by decide) ?_ | refine wpk_ret ?_ | ((first | refine wpk_ops ?_ | refine wpk_draw0 ?_ | refine wpk_drawS rfl rfl ?_ | refine wpk_drawC rfl ?_ | refine wpk_condE ?_); simp only [y_wire_NewReader.down, cintV_i, lemS.down, lemC.down, Int.reduceBEq, Nat.reduceAdd, Nat.reduceLeDiff, reduceIte, Nat.reduceEqDiff, Int.reduceLT, Int.reduceLE, Int.reduceGT, Int.reduceGE, Int.reduceEq, Int.reduceAdd, Int.reduceSub, Int.reduceMul, reduceCtorEq, lemH.down, hz])))
    exact ⟨.inr rfl, _, rfl, by simp only [y_wire_NewReader.down, cintV_i, lemS.down, lemC.down, Int.reduceBEq, Nat.reduceAdd, Nat.reduceLeDiff, reduceIte, Nat.reduceEqDiff, Int.reduceLT, Int.reduceLE, Int.reduceGT, Int.reduceGE, Int.reduceEq, Int.reduceAdd, Int.reduceSub, Int.reduceMul, reduceCtorEq], ⟨⟨Nat.zero_le _, hs⟩, Var.new_self⟩, Grows.new⟩
  obtain ⟨v, h', e, rfl, r⟩ := this
  exact ⟨h', e, r⟩
theorem RErr_run {pr : Prog} (T : WireTab pr) (hr : Rd h R r) : cfi pr 57 [.pointer (some ⟨R, 0, none⟩)] h = some (.int .i64 (r.err : Int), h) := by
  refine cfi_code T.rr T.rrC rfl ?_
  unfold x_wire_Reader_Err
  dsimp only [initFr]
  refine wpk.out (k := []) ?_
  (repeat (first | refine wpk_seq ?_ | refine wpk_block ?_ | refine wpk_scope ?_ | refine wpk_skip ?_ | refine kont_code ?_ | refine kont_blk ?_ | refine kont_nil ?_ | refine wpk_exit ?_ | refine exit_code ?_ | refine exit_lp ?_ | refine exit_here ?_ | refine exit_there (by decide) ?_ | refine wpk_ret ?_ | ((first | refine wpk_ops ?_ | refine wpk_draw0 ?_ | refine wpk_drawS rfl rfl ?_ | refine wpk_drawC rfl ?_ | refine wpk_condE ?_); simp only [y_wire_Reader_Err.down, cintV_i, lemS.down, lemC.down, Int.reduceBEq, Nat.reduceAdd, Nat.reduceLeDiff, reduceIte, Nat.reduceEqDiff, Int.reduceLT, Int.reduceLE, Int.reduceGT, Int.reduceGE, Int.reduceEq, Int.reduceAdd, Int.reduceSub, Int.reduceMul, reduceCtorEq, lemH.down, eqX_pn, hr.l2])))
  exact ⟨.inr rfl, by simp only [y_wire_Reader_Err.down, cintV_i, lemS.down, lemC.down, Int.reduceBEq, Nat.reduceAdd, Nat.reduceLeDiff, reduceIte, Nat.reduceEqDiff, Int.reduceLT, Int.reduceLE, Int.reduceGT, Int.reduceGE, Int.reduceEq, Int.reduceAdd, Int.reduceSub, Int.reduceMul, reduceCtorEq], rfl⟩
theorem RAt_run {pr : Prog} (T : WireTab pr) (hr : Rd h R r) : cfi pr 58 [.pointer (some ⟨R, 0, none⟩)] h = some (.int .i64 (r.pos : Int), h) := by
  refine cfi_code T.ra T.raC rfl ?_
  unfold x_wire_Reader_At
  dsimp only [initFr]
  refine wpk.out (k := []) ?_
  (repeat (first | refine wpk_seq ?_ | refine wpk_block ?_ | refine wpk_scope ?_ | refine wpk_skip ?_ | refine kont_code ?_ | refine kont_blk ?_ | refine kont_nil ?_ | refine wpk_exit ?_ | refine exit_code ?_ | refine exit_lp ?_ | refine exit_here ?_ | refine exit_there (by decide) ?_ | refine wpk_ret ?_ | ((first | refine wpk_ops ?_ | refine wpk_draw0 ?_ | refine wpk_drawS rfl rfl ?_ | refine wpk_drawC rfl ?_ | refine wpk_condE ?_); simp only [y_wire_Reader_At.down, cintV_i, lemS.down, lemC.down, Int.reduceBEq, Nat.reduceAdd, Nat.reduceLeDiff, reduceIte, Nat.reduceEqDiff, Int.reduceLT, Int.reduceLE, Int.reduceGT, Int.reduceGE, Int.reduceEq, Int.reduceAdd, Int.reduceSub, Int.reduceMul, reduceCtorEq, lemH.down, eqX_pn, hr.l1])))
  exact ⟨.inr rfl, by simp only [y_wire_Reader_At.down, cintV_i, lemS.down, lemC.down, Int.reduceBEq, Nat.reduceAdd, Nat.reduceLeDiff, reduceIte, Nat.reduceEqDiff, Int.reduceLT, Int.reduceLE, Int.reduceGT, Int.reduceGE, Int.reduceEq, Int.reduceAdd, Int.reduceSub, Int.reduceMul, reduceCtorEq], rfl⟩
theorem RLeft_run {pr : Prog} (T : WireTab pr) (hr : Rd h R r) : cfi pr 56 [.pointer (some ⟨R, 0, none⟩)] h = some (.int .i64 ((r.s.length : Int) - r.pos), h) := by
  refine cfi_code T.rl T.rlC rfl ?_
  unfold x_wire_Reader_Left
  dsimp only [initFr]
  refine wpk.out (k := []) ?_
  have hr64 : roomX = 140737488355328 := rfl
  have ok := hr.1
  unfold RS.ok at ok
  have w : IntKind.i64.wrap ((r.s.length : Int) - r.pos) = (r.s.length : Int) - r.pos := wrap_i64 (by omega) (by omega)
  (repeat (first | refine wpk_seq ?_ | refine wpk_block ?_ | refine wpk_scope ?_ | refine wpk_skip ?_ | refine kont_code ?_ | refine kont_blk ?_ | refine kont_nil ?_ | refine wpk_exit ?_ | refine exit_code ?_ | refine exit_lp ?_ | refine exit_here ?_ | refine exit_there (by decide) ?_ | refine wpk_ret ?_ | ((first | refine wpk_ops ?_ | refine wpk_draw0 ?_ | refine wpk_drawS rfl rfl ?_ | refine wpk_drawC rfl ?_ | refine wpk_condE ?_); simp only [y_wire_Reader_Left.down, cintV_i, lemS.down, lemC.down, Int.reduceBEq, Nat.reduceAdd, Nat.reduceLeDiff, reduceIte, Nat.reduceEqDiff, Int.reduceLT, Int.reduceLE, Int.reduceGT, Int.reduceGE, Int.reduceEq, Int.reduceAdd, Int.reduceSub, Int.reduceMul, reduceCtorEq, lemH.down, eqX_pn, hr.l0, hr.l1, w])))
  exact ⟨.inr rfl, by simp only [y_wire_Reader_Left.down, cintV_i, lemS.down, lemC.down, Int.reduceBEq, Nat.reduceAdd, Nat.reduceLeDiff, reduceIte, Nat.reduceEqDiff, Int.reduceLT, Int.reduceLE, Int.reduceGT, Int.reduceGE, Int.reduceEq, Int.reduceAdd, Int.reduceSub, Int.reduceMul, reduceCtorEq], rfl⟩
theorem RBytes_run {pr : Prog} (T : WireTab pr) (hr : Rd h R r) (n : Int) (hn : -9223372036854775808 ≤ n ∧ n < 9223372036854775808) :
    ∃ h', cfi pr 93 [.pointer (some ⟨R, 0, none⟩), .int .i64 n] h = some (.string (strOf (bytesR r n).2), h') ∧ Rd h' R (bytesR r n).1 ∧ Keeps (fun A => A = R) h h' := by
  have : ∃ v h', cfi pr 93 [.pointer (some ⟨R, 0, none⟩), .int .i64 n] h = some (v, h') ∧ v = .string (strOf (bytesR r n).2) ∧ Rd h' R (bytesR r n).1 ∧ Keeps (fun A => A = R) h h' := by
    refine cfi_wp T.rb T.rbC rfl ?_
    unfold x_wire_Reader_Bytes
    dsimp only [initFr]
    refine wpk.out (k := []) ?_
    have hr64 : roomX = 140737488355328 := rfl
    have ok := hr.1
    unfold RS.ok at ok
    have er := RErr_run T hr
    have w : IntKind.i64.wrap ((r.s.length : Int) - r.pos) = (r.s.length : Int) - r.pos := wrap_i64 (by omega) (by omega)
    by_cases h0 : r.err = 0
    · have b0 : ((r.err : Int) == 0) = true := by rw [h0]; rfl
      by_cases h1 : n < 0
      · have d1 : decide (n < 0) = true := by simpa using h1
        (repeat (first | refine wpk_seq ?_ | refine wpk_block ?_ | refine wpk_scope ?_ | refine wpk_skip ?_ | refine kont_code ?_ | refine kont_blk ?_ | refine kont_nil ?_ | refine wpk_exit ?_ | refine exit_code ?_ | refine exit_lp ?_ | refine exit_here ?_ | refine exit_there (by decide) ?_ | refine wpk_ret ?_ | ((first | refine wpk_ops ?_ | refine wpk_draw0 ?_ | refine wpk_drawS rfl rfl ?_ | refine wpk_drawC rfl ?_ | refine wpk_condE ?_); simp only [y_wire_Reader_Bytes.down, cintV_i, lemS.down, lemC.down, Int.reduceBEq, Nat.reduceAdd, Nat.reduceLeDiff, reduceIte, Nat.reduceEqDiff, Int.reduceLT, Int.reduceLE, Int.reduceGT, Int.reduceGE, Int.reduceEq, Int.reduceAdd, Int.reduceSub, Int.reduceMul, reduceCtorEq, lemH.down, er, b0, d1, hr.s2L])))
        refine ⟨.inr rfl, _, rfl, ?_, ?_, Keeps.wr⟩
        · simp only [y_wire_Reader_Bytes.down, cintV_i, lemS.down, lemC.down, Int.reduceBEq, Nat.reduceAdd, Nat.reduceLeDiff, reduceIte, Nat.reduceEqDiff, Int.reduceLT, Int.reduceLE, Int.reduceGT, Int.reduceGE, Int.reduceEq, Int.reduceAdd, Int.reduceSub, Int.reduceMul, reduceCtorEq]
          unfold bytesR
          rw [if_neg (by omega), if_pos h1]
        · unfold bytesR
          rw [if_neg (by omega), if_pos h1]
          exact hr.wr ok
      · have d1 : decide (n < 0) = false := by simpa using h1
        by_cases h2 : (r.s.length : Int) - r.pos < n
        · have d2 : decide (n > (r.s.length : Int) - r.pos) = true := by simpa using h2
          (repeat (first | refine wpk_seq ?_ | refine wpk_block ?_ | refine wpk_scope ?_ | refine wpk_skip ?_ | refine kont_code ?_ | refine kont_blk ?_ | refine kont_nil ?_ | refine wpk_exit ?_ | refine exit_code ?_ | refine exit_lp ?_ | refine exit_here ?_ | refine exit_there (by decide) ?_ | refine wpk_ret ?_ | ((first | refine wpk_ops ?_ | refine wpk_draw0 ?_ | refine wpk_drawS rfl rfl ?_ | refine wpk_drawC rfl ?_ | refine wpk_condE ?_); simp only [y_wire_Reader_Bytes.down, cintV_i, lemS.down, lemC.down, Int.reduceBEq, Nat.reduceAdd, Nat.reduceLeDiff, reduceIte, Nat.reduceEqDiff, Int.reduceLT, Int.reduceLE, Int.reduceGT, Int.reduceGE, Int.reduceEq, Int.reduceAdd, Int.reduceSub, Int.reduceMul, reduceCtorEq, lemH.down, er, b0, d1, hr.l0, hr.l1, w, d2, hr.s2L])))
          refine ⟨.inr rfl, _, rfl, ?_, ?_, Keeps.wr⟩
          · simp only [y_wire_Reader_Bytes.down, cintV_i, lemS.down, lemC.down, Int.reduceBEq, Nat.reduceAdd, Nat.reduceLeDiff, reduceIte, Nat.reduceEqDiff, Int.reduceLT, Int.reduceLE, Int.reduceGT, Int.reduceGE, Int.reduceEq, Int.reduceAdd, Int.reduceSub, Int.reduceMul, reduceCtorEq]
            unfold bytesR
            rw [if_neg (by omega), if_neg h1, if_pos h2]
          · unfold bytesR
            rw [if_neg (by omega), if_neg h1, if_pos h2]
            exact hr.wr ok
        · have d2 : decide (n > (r.s.length : Int) - r.pos) = false := by simp only [gt_iff_lt, decide_eq_false_iff_not]; exact h2
          obtain ⟨m, rfl⟩ : ∃ m : Nat, n = (m : Int) := ⟨n.toNat, by omega⟩
          have w2 : IntKind.i64.wrap ((r.pos : Int) + (m : Int)) = ((r.pos + m : Nat) : Int) := by rw [wrap_i64 (by omega) (by omega)]; omega
          have w3 : IntKind.i64.wrap (((r.pos + m : Nat) : Int) - (m : Int)) = (r.pos : Int) := by rw [wrap_i64 (by omega) (by omega)]; omega
          have hr2 : Rd (h.wr R (rcells ⟨r.s, r.pos + m, r.err⟩)) R ⟨r.s, r.pos + m, r.err⟩ := hr.wr ⟨by show r.pos + m ≤ r.s.length; omega, ok.2⟩
          have ct := cut_both (s := r.s) (n := r.pos) (m := r.pos + m) (k := .i64) (k' := .i64) (by omega) (by omega)
          (repeat (first | refine wpk_seq ?_ | refine wpk_block ?_ | refine wpk_scope ?_ | refine wpk_skip ?_ | refine kont_code ?_ | refine kont_blk ?_ | refine kont_nil ?_ | refine wpk_exit ?_ | refine exit_code ?_ | refine exit_lp ?_ | refine exit_here ?_ | refine exit_there (by decide) ?_ | refine wpk_ret ?_ | ((first | refine wpk_ops ?_ | refine wpk_draw0 ?_ | refine wpk_drawS rfl rfl ?_ | refine wpk_drawC rfl ?_ | refine wpk_condE ?_); simp only [y_wire_Reader_Bytes.down, cintV_i, lemS.down, lemC.down, Int.reduceBEq, Nat.reduceAdd, Nat.reduceLeDiff, reduceIte, Nat.reduceEqDiff, Int.reduceLT, Int.reduceLE, Int.reduceGT, Int.reduceGE, Int.reduceEq, Int.reduceAdd, Int.reduceSub, Int.reduceMul, reduceCtorEq, lemH.down, er, b0, d1, hr.l0, hr.l1, w, d2, w2, hr.s1, hr2.l0, hr2.l1, w3, ct])))
          refine ⟨.inr rfl, _, rfl, ?_, ?_, Keeps.wr⟩
          · simp only [y_wire_Reader_Bytes.down, cintV_i, lemS.down, lemC.down, Int.reduceBEq, Nat.reduceAdd, Nat.reduceLeDiff, reduceIte, Nat.reduceEqDiff, Int.reduceLT, Int.reduceLE, Int.reduceGT, Int.reduceGE, Int.reduceEq, Int.reduceAdd, Int.reduceSub, Int.reduceMul, reduceCtorEq]
            unfold bytesR
            rw [if_neg (by omega), if_neg h1, if_neg h2]
            simp
          · unfold bytesR
            rw [if_neg (by omega), if_neg h1, if_neg h2]
            exact hr2
    · have b0 : ((r.err : Int) == 0) = false := by rw [beq_eq_false_iff_ne]; omega
      (repeat (first | refine wpk_seq ?_ | refine wpk_block ?_ | refine wpk_scope ?_ | refine wpk_skip ?_ | refine kont_code ?_ | refine kont_blk ?_ | refine kont_nil ?_ | refine wpk_exit ?_ | refine exit_code ?_ | refine exit_lp ?_ | refine exit_here ?_ | refine exit_there (by decide) ?_ | refine wpk_ret ?_ | ((first | refine wpk_ops ?_ | refine wpk_draw0 ?_ | refine wpk_drawS rfl rfl ?_ | refine wpk_drawC rfl ?_ | refine wpk_condE ?_); simp only [y_wire_Reader_Bytes.down, cintV_i, lemS.down, lemC.down, Int.reduceBEq, Nat.reduceAdd, Nat.reduceLeDiff, reduceIte, Nat.reduceEqDiff, Int.reduceLT, Int.reduceLE, Int.reduceGT, Int.reduceGE, Int.reduceEq, Int.reduceAdd, Int.reduceSub, Int.reduceMul, reduceCtorEq, lemH.down, er, b0])))
      refine ⟨.inr rfl, _, rfl, ?_, ?_, Keeps.refl⟩
      · simp only [y_wire_Reader_Bytes.down, cintV_i, lemS.down, lemC.down, Int.reduceBEq, Nat.reduceAdd, Nat.reduceLeDiff, reduceIte, Nat.reduceEqDiff, Int.reduceLT, Int.reduceLE, Int.reduceGT, Int.reduceGE, Int.reduceEq, Int.reduceAdd, Int.reduceSub, Int.reduceMul, reduceCtorEq]
        unfold bytesR
        rw [if_pos h0]
      · unfold bytesR
        rw [if_pos h0]
        exact hr
  obtain ⟨v, h', e, rfl, r⟩ := this
  exact ⟨h', e, r⟩
end
end Go.X
end

section
open Go Go.X
namespace Go.X
set_option linter.unusedVariables false
def numV (b : List UInt8) : Nat := b.foldl (fun n b => n * 256 + b.toNat) 0
theorem numV_snoc (b : List UInt8) (x : UInt8) : numV (b ++ [x]) = numV b * 256 + x.toNat := by simp [numV]
theorem numV_lt : ∀ (b : List UInt8), numV b < 256 ^ b.length := by
  intro b
  have key : ∀ (b : List UInt8) (n m : Nat), n < 256 ^ m → b.foldl (fun n b => n * 256 + b.toNat) n < 256 ^ (m + b.length) := by
    intro b
    induction b with
    | nil => intro n m h; simpa using h
    | cons x b ih =>
      intro n m h
      have hx := x.toNat_lt
      have := ih (n * 256 + x.toNat) (m + 1) (by rw [Nat.pow_succ]; omega)
      simp only [List.foldl_cons, List.length_cons]
      rw [show m + (b.length + 1) = m + 1 + b.length by omega]
      exact this
  have := key b 0 0 (by decide)
  rw [Nat.zero_add] at this
  exact this
def numberR (r : RS) (k : Nat) : RS × Nat := ((bytesR r k).1, numV (bytesR r k).2)
theorem bytesR_len (r : RS) (k : Nat) : (bytesR r k).2.length ≤ k := by
  unfold bytesR
  split
  · simp
  · split
    · simp
    · split
      · simp
      · simp; omega
theorem numberR_lt (r : RS) {k : Nat} (hk : k ≤ 8) : (numberR r k).2 < 256 ^ k := by
  refine Nat.lt_of_lt_of_le (numV_lt _) (Nat.pow_le_pow_right (by decide) (bytesR_len r k))
section
variable {h : Heap} {R : Nat} {r : RS}
theorem RNumber_run {pr : Prog} (T : WireTab pr) (hr : Rd h R r) (k : Nat) (hk : k ≤ 8) :
    ∃ h', cfi pr 69 [.pointer (some ⟨R, 0, none⟩), .int .i64 (OfNat.ofNat k)] h = some (uw .u64 (numberR r k).2, h') ∧ Rd h' R (numberR r k).1 ∧ Keeps (fun A => A = R) h h' := by
  have : ∃ v h', cfi pr 69 [.pointer (some ⟨R, 0, none⟩), .int .i64 (OfNat.ofNat k)] h = some (v, h') ∧ v = uw .u64 (numberR r k).2 ∧ Rd h' R (numberR r k).1 ∧ Keeps (fun A => A = R) h h' := by
    refine cfi_wp T.rn T.rnC rfl ?_
    unfold x_wire_Reader_Number
    dsimp only [initFr]
    refine wpk.out (k := []) ?_
    have hRlt := hr.2.1
    have er := RErr_run T hr
    have ek : (OfNat.ofNat k : Int) = (k : Int) := rfl
    have d1 : decide ((OfNat.ofNat k : Int) > 8) = false := by rw [ek]; simp; omega
    obtain ⟨h2, e2, r2, k2⟩ := RBytes_run T hr (k : Int) (by omega)
    have e2 : cfi pr 93 [.pointer (some ⟨R, 0, none⟩), .int .i64 (OfNat.ofNat k)] h = some (.string (strOf (bytesR r (k : Int)).2), h2) := e2
    have hb := bytesR_len r k
    have tail : ∀ t : Fr, t.get 5 = uw .u64 0 → t.get 21 = .slice (some ⟨h2.next, 0, some 1⟩) (bytesR r (k : Int)).2.length (bytesR r (k : Int)).2.length → t.get 22 = .int .i64 ((bytesR r (k : Int)).2.length : Int) → t.get 23 = .int .i64 0 →
        wpk pr (.loop x_wire_Reader_Number_9) [KI.blk 0, KI.code ((XC.ops x_wire_Reader_Number_10).seq XC.ret)] (fun e t' h1 => (e = XE.normal ∨ e = XE.ret) ∧ ∃ v, t'.get 4 = v ∧ v = uw .u64 (numberR r k).2 ∧ Rd h1 R (numberR r k).1 ∧ Keeps (fun A => A = R) h h1) t (h2.new (cellsOfBytes (bytesR r (k : Int)).2)) := by
      intro t t5 t21 t22 t23
      have r3 := r2.grow (Grows.new (l := cellsOfBytes (bytesR r (k : Int)).2))
      have hO := Own.newSlice (h := h2) (l := cellsOfBytes (bytesR r (k : Int)).2) (n := (bytesR r (k : Int)).2.length) (esz := 1) (sp := some 1) (by simp [cellsOfBytes_len]) (.inr rfl)
      have k3 : Keeps (fun A => A = R) h (h2.new (cellsOfBytes (bytesR r (k : Int)).2)) := k2.trans Keeps.new (fun _ _ e => e)
      have hnum : numberR r k = ((bytesR r (k : Int)).1, numV (bytesR r (k : Int)).2) := rfl
      rw [hnum]
      generalize (bytesR r (k : Int)).2 = b at *
      generalize (bytesR r (k : Int)).1 = r' at *
      generalize h2.new (cellsOfBytes b) = h3 at *
      refine wpk_loop_inv (fun m t g => ∃ i, m = b.length - i ∧ i ≤ b.length ∧ g = h3 ∧ t.get 5 = uw .u64 (numV (b.take i)) ∧ t.get 21 = .slice (some ⟨h2.next, 0, some 1⟩) b.length b.length ∧ t.get 22 = .int .i64 (b.length : Int) ∧ t.get 23 = .int .i64 (i : Int)) ?_ b.length _ _ ⟨0, rfl, by omega, rfl, t5, t21, t22, t23⟩
      rintro m t _ ⟨i, rfl, hi, rfl, t5, t21, t22, t23⟩ hnext
      refine x_wire_Reader_Number_9k ?_
      dsimp only [x_wire_Reader_Number_9b]
      (repeat (first | refine wpk_seq ?_ | refine wpk_block ?_ | refine wpk_scope ?_ | refine wpk_skip ?_ | refine kont_code ?_ | refine kont_blk ?_ | refine kont_nil ?_ | refine wpk_exit ?_ | refine exit_code ?_ | refine exit_lp ?_ | refine exit_here ?_ | refine exit_there (by decide) ?_ | refine wpk_ret ?_ | ((first | refine wpk_ops ?_ | refine wpk_draw0 ?_ | refine wpk_drawS rfl rfl ?_ | refine wpk_drawC rfl ?_ | refine wpk_condE ?_); simp only [y_wire_Reader_Number.down, cintV_i, lemS.down, lemC.down, Int.reduceBEq, Nat.reduceAdd, Nat.reduceLeDiff, reduceIte, Nat.reduceEqDiff, Int.reduceLT, Int.reduceLE, Int.reduceGT, Int.reduceGE, Int.reduceEq, Int.reduceAdd, Int.reduceSub, Int.reduceMul, reduceCtorEq, lemH.down, lemW.down, t5, t21, t22, t23])))
      refine ⟨fun hlt => ?_, fun hge => ?_⟩
      · have hi' : i < b.length := by omega
        have ww : IntKind.i64.wrap ((i : Int) + 1) = ((i + 1 : Nat) : Int) := by rw [wrap_i64 (by omega) (by omega)]; omega
        obtain ⟨B, o, ia, ld⟩ := hO.addr1 hi' (k := .i64)
        rw [cellsOfBytes_get hi'] at ld
        (repeat (first | refine wpk_seq ?_ | refine wpk_block ?_ | refine wpk_scope ?_ | refine wpk_skip ?_ | refine kont_code ?_ | refine kont_blk ?_ | refine kont_nil ?_ | refine wpk_exit ?_ | refine exit_code ?_ | refine exit_lp ?_ | refine exit_here ?_ | refine exit_there (by decide) ?_ | refine wpk_ret ?_ | ((first | refine wpk_ops ?_ | refine wpk_draw0 ?_ | refine wpk_drawS rfl rfl ?_ | refine wpk_drawC rfl ?_ | refine wpk_condE ?_); simp only [y_wire_Reader_Number.down, cintV_i, lemS.down, lemC.down, Int.reduceBEq, Nat.reduceAdd, Nat.reduceLeDiff, reduceIte, Nat.reduceEqDiff, Int.reduceLT, Int.reduceLE, Int.reduceGT, Int.reduceGE, Int.reduceEq, Int.reduceAdd, Int.reduceSub, Int.reduceMul, reduceCtorEq, lemH.down, lemW.down, t5, t21, t22, t23, p_iaddrS, ia, ld, shl_u64 (n := 8) (by decide), ww])))
        refine hnext (b.length - (i + 1)) _ _ (by omega) ⟨i + 1, rfl, by omega, rfl, ?_, by simp only [y_wire_Reader_Number.down, cintV_i, lemS.down, lemC.down, Int.reduceBEq, Nat.reduceAdd, Nat.reduceLeDiff, reduceIte, Nat.reduceEqDiff, Int.reduceLT, Int.reduceLE, Int.reduceGT, Int.reduceGE, Int.reduceEq, Int.reduceAdd, Int.reduceSub, Int.reduceMul, reduceCtorEq, t21], by simp only [y_wire_Reader_Number.down, cintV_i, lemS.down, lemC.down, Int.reduceBEq, Nat.reduceAdd, Nat.reduceLeDiff, reduceIte, Nat.reduceEqDiff, Int.reduceLT, Int.reduceLE, Int.reduceGT, Int.reduceGE, Int.reduceEq, Int.reduceAdd, Int.reduceSub, Int.reduceMul, reduceCtorEq, t22], by simp only [y_wire_Reader_Number.down, cintV_i, lemS.down, lemC.down, Int.reduceBEq, Nat.reduceAdd, Nat.reduceLeDiff, reduceIte, Nat.reduceEqDiff, Int.reduceLT, Int.reduceLE, Int.reduceGT, Int.reduceGE, Int.reduceEq, Int.reduceAdd, Int.reduceSub, Int.reduceMul, reduceCtorEq]⟩
        simp only [y_wire_Reader_Number.down, cintV_i, lemS.down, lemC.down, Int.reduceBEq, Nat.reduceAdd, Nat.reduceLeDiff, reduceIte, Nat.reduceEqDiff, Int.reduceLT, Int.reduceLE, Int.reduceGT, Int.reduceGE, Int.reduceEq, Int.reduceAdd, Int.reduceSub, Int.reduceMul, reduceCtorEq]
        rw [List.take_succ_eq_append_getElem hi', numV_snoc]
        have hx := (b[i]).toNat_lt
        have e1 : b.getD i 0 = b[i] := by simp [List.getD_eq_getElem?_getD, List.getElem?_eq_getElem hi']
        rw [e1, Nat.mod_eq_of_lt (by simpa using hx), ← Nat.shiftLeft_add_eq_or_of_lt (i := 8) (by simpa using hx), Nat.shiftLeft_eq]
      · obtain rfl : i = b.length := by omega
        rw [List.take_length] at t5
        (repeat (first | refine wpk_seq ?_ | refine wpk_block ?_ | refine wpk_scope ?_ | refine wpk_skip ?_ | refine kont_code ?_ | refine kont_blk ?_ | refine kont_nil ?_ | refine wpk_exit ?_ | refine exit_code ?_ | refine exit_lp ?_ | refine exit_here ?_ | refine exit_there (by decide) ?_ | refine wpk_ret ?_ | ((first | refine wpk_ops ?_ | refine wpk_draw0 ?_ | refine wpk_drawS rfl rfl ?_ | refine wpk_drawC rfl ?_ | refine wpk_condE ?_); simp only [y_wire_Reader_Number.down, cintV_i, lemS.down, lemC.down, Int.reduceBEq, Nat.reduceAdd, Nat.reduceLeDiff, reduceIte, Nat.reduceEqDiff, Int.reduceLT, Int.reduceLE, Int.reduceGT, Int.reduceGE, Int.reduceEq, Int.reduceAdd, Int.reduceSub, Int.reduceMul, reduceCtorEq, lemH.down, lemW.down, t5, t21, t22, t23])))
        exact ⟨.inr rfl, _, rfl, by simp only [y_wire_Reader_Number.down, cintV_i, lemS.down, lemC.down, Int.reduceBEq, Nat.reduceAdd, Nat.reduceLeDiff, reduceIte, Nat.reduceEqDiff, Int.reduceLT, Int.reduceLE, Int.reduceGT, Int.reduceGE, Int.reduceEq, Int.reduceAdd, Int.reduceSub, Int.reduceMul, reduceCtorEq], r3, k3⟩
    by_cases h0 : r.err = 0
    · have b0 : ((r.err : Int) == 0) = true := by rw [h0]; rfl
      (repeat (first | refine wpk_seq ?_ | refine wpk_block ?_ | refine wpk_scope ?_ | refine wpk_skip ?_ | refine kont_code ?_ | refine kont_blk ?_ | refine kont_nil ?_ | refine wpk_exit ?_ | refine exit_code ?_ | refine exit_lp ?_ | refine exit_here ?_ | refine exit_there (by decide) ?_ | refine wpk_ret ?_ | ((first | refine wpk_ops ?_ | refine wpk_draw0 ?_ | refine wpk_drawS rfl rfl ?_ | refine wpk_drawC rfl ?_ | refine wpk_condE ?_); simp only [y_wire_Reader_Number.down, cintV_i, lemS.down, lemC.down, Int.reduceBEq, Nat.reduceAdd, Nat.reduceLeDiff, reduceIte, Nat.reduceEqDiff, Int.reduceLT, Int.reduceLE, Int.reduceGT, Int.reduceGE, Int.reduceEq, Int.reduceAdd, Int.reduceSub, Int.reduceMul, reduceCtorEq, lemH.down, er, b0, d1, e2, cs2bV_s])))
      exact tail _ (by (simp only [y_wire_Reader_Number.down, cintV_i, lemS.down, lemC.down, Int.reduceBEq, Nat.reduceAdd, Nat.reduceLeDiff, reduceIte, Nat.reduceEqDiff, Int.reduceLT, Int.reduceLE, Int.reduceGT, Int.reduceGE, Int.reduceEq, Int.reduceAdd, Int.reduceSub, Int.reduceMul, reduceCtorEq]) <;> rfl) (by simp only [y_wire_Reader_Number.down, cintV_i, lemS.down, lemC.down, Int.reduceBEq, Nat.reduceAdd, Nat.reduceLeDiff, reduceIte, Nat.reduceEqDiff, Int.reduceLT, Int.reduceLE, Int.reduceGT, Int.reduceGE, Int.reduceEq, Int.reduceAdd, Int.reduceSub, Int.reduceMul, reduceCtorEq]) (by simp only [y_wire_Reader_Number.down, cintV_i, lemS.down, lemC.down, Int.reduceBEq, Nat.reduceAdd, Nat.reduceLeDiff, reduceIte, Nat.reduceEqDiff, Int.reduceLT, Int.reduceLE, Int.reduceGT, Int.reduceGE, Int.reduceEq, Int.reduceAdd, Int.reduceSub, Int.reduceMul, reduceCtorEq]) (by simp only [y_wire_Reader_Number.down, cintV_i, lemS.down, lemC.down, Int.reduceBEq, Nat.reduceAdd, Nat.reduceLeDiff, reduceIte, Nat.reduceEqDiff, Int.reduceLT, Int.reduceLE, Int.reduceGT, Int.reduceGE, Int.reduceEq, Int.reduceAdd, Int.reduceSub, Int.reduceMul, reduceCtorEq])
    · have b0 : ((r.err : Int) == 0) = false := by rw [beq_eq_false_iff_ne]; omega
      (repeat (first | refine wpk_seq ?_ | refine wpk_block ?_ | refine wpk_scope ?_ | refine wpk_skip ?_ | refine kont_code ?_ | refine kont_blk ?_ | refine kont_nil ?_ | refine wpk_exit ?_ | refine exit_code ?_ | refine exit_lp ?_ | refine exit_here ?_ | refine exit_there (by decide) ?_ | refine wpk_ret ?_ | ((first | refine wpk_ops ?_ | refine wpk_draw0 ?_ | refine wpk_drawS rfl rfl ?_ | refine wpk_drawC rfl ?_ | refine wpk_condE ?_); simp only [y_wire_Reader_Number.down, cintV_i, lemS.down, lemC.down, Int.reduceBEq, Nat.reduceAdd, Nat.reduceLeDiff, reduceIte, Nat.reduceEqDiff, Int.reduceLT, Int.reduceLE, Int.reduceGT, Int.reduceGE, Int.reduceEq, Int.reduceAdd, Int.reduceSub, Int.reduceMul, reduceCtorEq, lemH.down, er, b0, d1, e2, cs2bV_s])))
      exact tail _ (by (simp only [y_wire_Reader_Number.down, cintV_i, lemS.down, lemC.down, Int.reduceBEq, Nat.reduceAdd, Nat.reduceLeDiff, reduceIte, Nat.reduceEqDiff, Int.reduceLT, Int.reduceLE, Int.reduceGT, Int.reduceGE, Int.reduceEq, Int.reduceAdd, Int.reduceSub, Int.reduceMul, reduceCtorEq]) <;> rfl) (by simp only [y_wire_Reader_Number.down, cintV_i, lemS.down, lemC.down, Int.reduceBEq, Nat.reduceAdd, Nat.reduceLeDiff, reduceIte, Nat.reduceEqDiff, Int.reduceLT, Int.reduceLE, Int.reduceGT, Int.reduceGE, Int.reduceEq, Int.reduceAdd, Int.reduceSub, Int.reduceMul, reduceCtorEq]) (by simp only [y_wire_Reader_Number.down, cintV_i, lemS.down, lemC.down, Int.reduceBEq, Nat.reduceAdd, Nat.reduceLeDiff, reduceIte, Nat.reduceEqDiff, Int.reduceLT, Int.reduceLE, Int.reduceGT, Int.reduceGE, Int.reduceEq, Int.reduceAdd, Int.reduceSub, Int.reduceMul, reduceCtorEq]) (by simp only [y_wire_Reader_Number.down, cintV_i, lemS.down, lemC.down, Int.reduceBEq, Nat.reduceAdd, Nat.reduceLeDiff, reduceIte, Nat.reduceEqDiff, Int.reduceLT, Int.reduceLE, Int.reduceGT, Int.reduceGE, Int.reduceEq, Int.reduceAdd, Int.reduceSub, Int.reduceMul, reduceCtorEq])
  obtain ⟨v, h', e, rfl, r⟩ := this
  exact ⟨h', e, r⟩
end
end Go.X
end

section
open Go Go.X
namespace Go.X
set_option linter.unusedVariables false
def countR (r : RS) (most : Nat) : RS × Nat :=
  if (numberR r 4).1.err ≠ 0 then ((numberR r 4).1, 0) else if most < (numberR r 4).2 then (⟨r.s, r.pos, 3⟩, 0) else numberR r 4
def textR (r : RS) (most : Nat) : RS × List UInt8 :=
  let q := bytesR (countR r most).1 (countR r most).2
  (if q.1.err ≠ 0 then ⟨q.1.s, r.pos, q.1.err⟩ else q.1, q.2)
def endR (r : RS) : RS := if 0 < r.s.length - r.pos ∧ r.err = 0 then ⟨r.s, r.pos, 5⟩ else r
theorem numberR_ok {r : RS} (hr : r.ok) (k : Nat) : (numberR r k).1.ok := bytesR_ok hr _
theorem numberR_s (r : RS) (k : Nat) : (numberR r k).1.s = r.s := bytesR_s r _
theorem countR_ok {r : RS} (hr : r.ok) (m : Nat) : (countR r m).1.ok := by
  unfold countR
  split
  · exact numberR_ok hr 4
  · split
    · exact hr
    · exact numberR_ok hr 4
theorem countR_s (r : RS) (m : Nat) : (countR r m).1.s = r.s := by
  unfold countR
  split
  · exact numberR_s r 4
  · split
    · rfl
    · exact numberR_s r 4
theorem countR_le (r : RS) (m : Nat) : (countR r m).2 < 4294967296 := by
  unfold countR
  split
  · exact Nat.zero_lt_succ _
  · split
    · exact Nat.zero_lt_succ _
    · exact numberR_lt r (by decide)
section
variable {h : Heap} {R : Nat} {r : RS}
theorem RCount_run {pr : Prog} (T : WireTab pr) (hr : Rd h R r) (m : Nat) (hm : m < 9223372036854775808) :
    ∃ h', cfi pr 94 [.pointer (some ⟨R, 0, none⟩), .int .i64 (OfNat.ofNat m)] h = some (.int .i64 ((countR r m).2 : Int), h') ∧ Rd h' R (countR r m).1 ∧ Keeps (fun A => A = R) h h' := by
  have : ∃ v h', cfi pr 94 [.pointer (some ⟨R, 0, none⟩), .int .i64 (OfNat.ofNat m)] h = some (v, h') ∧ v = .int .i64 ((countR r m).2 : Int) ∧ Rd h' R (countR r m).1 ∧ Keeps (fun A => A = R) h h' := by
    refine cfi_wp T.rc T.rcC rfl ?_
    unfold x_wire_Reader_Count
    dsimp only [initFr]
    refine wpk.out (k := []) ?_
    have em : (OfNat.ofNat m : Int) = (m : Int) := rfl
    rw [em]
    have at0 := RAt_run T hr
    obtain ⟨h2, e2, r2, k2⟩ := RNumber_run T hr 4 (by decide)
    have e2 : cfi pr 69 [.pointer (some ⟨R, 0, none⟩), .int .i64 4] h = some (uw .u64 (numberR r 4).2, h2) := e2
    have er := RErr_run T r2
    have hlt := numberR_lt r (k := 4) (by decide)
    have e4 : uw .u64 (numberR r 4).2 = .int .u64 ((numberR r 4).2 : Int) := (nat_u64 (by omega)).symm
    rw [e4] at e2
    have c := uw_cint (k := .u64) (k' := .i64) u64_signed (n := m)
    rw [← nat_u64 (by omega)] at c
    have d1 : decide ((m : Int) < 0) = false := by simp
    have ci : IntKind.i64.wrap ((numberR r 4).2 : Int) = ((numberR r 4).2 : Int) := wrap_i64 (by omega) (by omega)
    unfold countR
    by_cases h0 : (numberR r 4).1.err = 0
    · have b0 : (((numberR r 4).1.err : Int) == 0) = true := by rw [h0]; rfl
      rw [if_neg (by omega)]
      by_cases h1 : m < (numberR r 4).2
      · rw [if_pos h1]
        have d2 : decide (((numberR r 4).2 : Int) > (m : Int)) = true := by simp; omega
        have r3 : Rd (h2.wr R (rcells ⟨(numberR r 4).1.s, r.pos, (numberR r 4).1.err⟩)) R ⟨(numberR r 4).1.s, r.pos, (numberR r 4).1.err⟩ := r2.wr ⟨by rw [numberR_s]; exact hr.1.1, by rw [numberR_s]; exact hr.1.2⟩
        (repeat (first | refine wpk_seq ?_ | refine wpk_block ?_ | refine wpk_scope ?_ | refine wpk_skip ?_ | refine kont_code ?_ | refine kont_blk ?_ | refine kont_nil ?_ | refine wpk_exit ?_ | refine exit_code ?_ | refine exit_lp ?_ | refine exit_here ?_ | refine exit_there (by decide) ?_ | refine wpk_ret ?_ | ((first | refine wpk_ops ?_ | refine wpk_draw0 ?_ | refine wpk_drawS rfl rfl ?_ | refine wpk_drawC rfl ?_ | refine wpk_condE ?_); simp only [y_wire_Reader_Count.down, cintV_i, lemS.down, lemC.down, Int.reduceBEq, Nat.reduceAdd, Nat.reduceLeDiff, reduceIte, Nat.reduceEqDiff, Int.reduceLT, Int.reduceLE, Int.reduceGT, Int.reduceGE, Int.reduceEq, Int.reduceAdd, Int.reduceSub, Int.reduceMul, reduceCtorEq, lemH.down, at0, e2, er, b0, d1, c, d2, r2.s1, r3.s2L])))
        refine ⟨.inr rfl, _, rfl, by (simp only [y_wire_Reader_Count.down, cintV_i, lemS.down, lemC.down, Int.reduceBEq, Nat.reduceAdd, Nat.reduceLeDiff, reduceIte, Nat.reduceEqDiff, Int.reduceLT, Int.reduceLE, Int.reduceGT, Int.reduceGE, Int.reduceEq, Int.reduceAdd, Int.reduceSub, Int.reduceMul, reduceCtorEq]) <;> rfl, ?_, ?_⟩
        · have := r3.wr (q := ⟨r.s, r.pos, 3⟩) hr.1
          rw [numberR_s]
          rw [numberR_s] at this
          exact this
        · exact (k2.trans Keeps.wr (fun _ _ e => e)).trans Keeps.wr (fun _ _ e => e)
      · rw [if_neg h1]
        have d2 : decide (((numberR r 4).2 : Int) > (m : Int)) = false := by simp; omega
        (repeat (first | refine wpk_seq ?_ | refine wpk_block ?_ | refine wpk_scope ?_ | refine wpk_skip ?_ | refine kont_code ?_ | refine kont_blk ?_ | refine kont_nil ?_ | refine wpk_exit ?_ | refine exit_code ?_ | refine exit_lp ?_ | refine exit_here ?_ | refine exit_there (by decide) ?_ | refine wpk_ret ?_ | ((first | refine wpk_ops ?_ | refine wpk_draw0 ?_ | refine wpk_drawS rfl rfl ?_ | refine wpk_drawC rfl ?_ | refine wpk_condE ?_); simp only [y_wire_Reader_Count.down, cintV_i, lemS.down, lemC.down, Int.reduceBEq, Nat.reduceAdd, Nat.reduceLeDiff, reduceIte, Nat.reduceEqDiff, Int.reduceLT, Int.reduceLE, Int.reduceGT, Int.reduceGE, Int.reduceEq, Int.reduceAdd, Int.reduceSub, Int.reduceMul, reduceCtorEq, lemH.down, at0, e2, er, b0, d1, c, d2, ci])))
        exact ⟨.inr rfl, _, rfl, by simp only [y_wire_Reader_Count.down, cintV_i, lemS.down, lemC.down, Int.reduceBEq, Nat.reduceAdd, Nat.reduceLeDiff, reduceIte, Nat.reduceEqDiff, Int.reduceLT, Int.reduceLE, Int.reduceGT, Int.reduceGE, Int.reduceEq, Int.reduceAdd, Int.reduceSub, Int.reduceMul, reduceCtorEq], r2, k2⟩
    · have b0 : (((numberR r 4).1.err : Int) == 0) = false := by rw [beq_eq_false_iff_ne]; omega
      rw [if_pos h0]
      (repeat (first | refine wpk_seq ?_ | refine wpk_block ?_ | refine wpk_scope ?_ | refine wpk_skip ?_ | refine kont_code ?_ | refine kont_blk ?_ | refine kont_nil ?_ | refine wpk_exit ?_ | refine exit_code ?_ | refine exit_lp ?_ | refine exit_here ?_ | refine exit_there (by decide) ?_ | refine wpk_ret ?_ | ((first | refine wpk_ops ?_ | refine wpk_draw0 ?_ | refine wpk_drawS rfl rfl ?_ | refine wpk_drawC rfl ?_ | refine wpk_condE ?_); simp only [y_wire_Reader_Count.down, cintV_i, lemS.down, lemC.down, Int.reduceBEq, Nat.reduceAdd, Nat.reduceLeDiff, reduceIte, Nat.reduceEqDiff, Int.reduceLT, Int.reduceLE, Int.reduceGT, Int.reduceGE, Int.reduceEq, Int.reduceAdd, Int.reduceSub, Int.reduceMul, reduceCtorEq, lemH.down, at0, e2, er, b0])))
      exact ⟨.inr rfl, _, rfl, by (simp only [y_wire_Reader_Count.down, cintV_i, lemS.down, lemC.down, Int.reduceBEq, Nat.reduceAdd, Nat.reduceLeDiff, reduceIte, Nat.reduceEqDiff, Int.reduceLT, Int.reduceLE, Int.reduceGT, Int.reduceGE, Int.reduceEq, Int.reduceAdd, Int.reduceSub, Int.reduceMul, reduceCtorEq]) <;> rfl, r2, k2⟩
  obtain ⟨v, h', e, rfl, r⟩ := this
  exact ⟨h', e, r⟩
theorem RText_run {pr : Prog} (T : WireTab pr) (hr : Rd h R r) (m : Nat) (hm : m < 9223372036854775808) :
    ∃ h', cfi pr 70 [.pointer (some ⟨R, 0, none⟩), .int .i64 (OfNat.ofNat m)] h = some (.string (strOf (textR r m).2), h') ∧ Rd h' R (textR r m).1 ∧ Keeps (fun A => A = R) h h' := by
  have : ∃ v h', cfi pr 70 [.pointer (some ⟨R, 0, none⟩), .int .i64 (OfNat.ofNat m)] h = some (v, h') ∧ v = .string (strOf (textR r m).2) ∧ Rd h' R (textR r m).1 ∧ Keeps (fun A => A = R) h h' := by
    refine cfi_wp T.rt T.rtC rfl ?_
    unfold x_wire_Reader_Text
    dsimp only [initFr]
    refine wpk.out (k := []) ?_
    have at0 := RAt_run T hr
    obtain ⟨h2, e2, r2, k2⟩ := RCount_run T hr m hm
    have hc := countR_le r m
    obtain ⟨h3, e3, r3, k3⟩ := RBytes_run T r2 ((countR r m).2 : Int) (by omega)
    have er := RErr_run T r3
    have hs3 : (bytesR (countR r m).1 ((countR r m).2 : Int)).1.s = r.s := by rw [bytesR_s, countR_s]
    unfold textR
    dsimp only
    by_cases h0 : (bytesR (countR r m).1 ((countR r m).2 : Int)).1.err = 0
    · have b0 : (((bytesR (countR r m).1 ((countR r m).2 : Int)).1.err : Int) == 0) = true := by rw [h0]; rfl
      rw [if_neg (by omega)]
      (repeat (first | refine wpk_seq ?_ | refine wpk_block ?_ | refine wpk_scope ?_ | refine wpk_skip ?_ | refine kont_code ?_ | refine kont_blk ?_ | refine kont_nil ?_ | refine wpk_exit ?_ | refine exit_code ?_ | refine exit_lp ?_ | refine exit_here ?_ | refine exit_there (by decide) ?_ | refine wpk_ret ?_ | ((first | refine wpk_ops ?_ | refine wpk_draw0 ?_ | refine wpk_drawS rfl rfl ?_ | refine wpk_drawC rfl ?_ | refine wpk_condE ?_); simp only [y_wire_Reader_Text.down, cintV_i, lemS.down, lemC.down, Int.reduceBEq, Nat.reduceAdd, Nat.reduceLeDiff, reduceIte, Nat.reduceEqDiff, Int.reduceLT, Int.reduceLE, Int.reduceGT, Int.reduceGE, Int.reduceEq, Int.reduceAdd, Int.reduceSub, Int.reduceMul, reduceCtorEq, lemH.down, at0, e2, e3, er, b0])))
      exact ⟨.inr rfl, _, rfl, by simp only [y_wire_Reader_Text.down, cintV_i, lemS.down, lemC.down, Int.reduceBEq, Nat.reduceAdd, Nat.reduceLeDiff, reduceIte, Nat.reduceEqDiff, Int.reduceLT, Int.reduceLE, Int.reduceGT, Int.reduceGE, Int.reduceEq, Int.reduceAdd, Int.reduceSub, Int.reduceMul, reduceCtorEq], r3, k2.trans k3 (fun _ _ e => e)⟩
    · have b0 : (((bytesR (countR r m).1 ((countR r m).2 : Int)).1.err : Int) == 0) = false := by rw [beq_eq_false_iff_ne]; omega
      rw [if_pos h0]
      (repeat (first | refine wpk_seq ?_ | refine wpk_block ?_ | refine wpk_scope ?_ | refine wpk_skip ?_ | refine kont_code ?_ | refine kont_blk ?_ | refine kont_nil ?_ | refine wpk_exit ?_ | refine exit_code ?_ | refine exit_lp ?_ | refine exit_here ?_ | refine exit_there (by decide) ?_ | refine wpk_ret ?_ | ((first | refine wpk_ops ?_ | refine wpk_draw0 ?_ | refine wpk_drawS rfl rfl ?_ | refine wpk_drawC rfl ?_ | refine wpk_condE ?_); simp only [y_wire_Reader_Text.down, cintV_i, lemS.down, lemC.down, Int.reduceBEq, Nat.reduceAdd, Nat.reduceLeDiff, reduceIte, Nat.reduceEqDiff, Int.reduceLT, Int.reduceLE, Int.reduceGT, Int.reduceGE, Int.reduceEq, Int.reduceAdd, Int.reduceSub, Int.reduceMul, reduceCtorEq, lemH.down, at0, e2, e3, er, b0, eqX_pn, r3.s1])))
      refine ⟨.inr rfl, _, rfl, by simp only [y_wire_Reader_Text.down, cintV_i, lemS.down, lemC.down, Int.reduceBEq, Nat.reduceAdd, Nat.reduceLeDiff, reduceIte, Nat.reduceEqDiff, Int.reduceLT, Int.reduceLE, Int.reduceGT, Int.reduceGE, Int.reduceEq, Int.reduceAdd, Int.reduceSub, Int.reduceMul, reduceCtorEq], r3.wr ⟨by rw [hs3]; exact hr.1.1, by rw [hs3]; exact hr.1.2⟩, (k2.trans k3 (fun _ _ e => e)).trans Keeps.wr (fun _ _ e => e)⟩
  obtain ⟨v, h', e, rfl, r⟩ := this
  exact ⟨h', e, r⟩
theorem RHash_run {pr : Prog} (T : WireTab pr) (hr : Rd h R r) :
    ∃ h', cfi pr 71 [.pointer (some ⟨R, 0, none⟩)] h = some (.string (strOf (bytesR r 32).2), h') ∧ Rd h' R (bytesR r 32).1 ∧ Keeps (fun A => A = R) h h' := by
  have : ∃ v h', cfi pr 71 [.pointer (some ⟨R, 0, none⟩)] h = some (v, h') ∧ v = .string (strOf (bytesR r 32).2) ∧ Rd h' R (bytesR r 32).1 ∧ Keeps (fun A => A = R) h h' := by
    refine cfi_wp T.rh T.rhC rfl ?_
    unfold x_wire_Reader_Hash
    dsimp only [initFr]
    refine wpk.out (k := []) ?_
    obtain ⟨h3, e3, r3, k3⟩ := RBytes_run T hr 32 (by decide)
    (repeat (first | refine wpk_seq ?_ | refine wpk_block ?_ | refine wpk_scope ?_ | refine wpk_skip ?_ | refine kont_code ?_ | refine kont_blk ?_ | refine kont_nil ?_ | refine wpk_exit ?_ | refine exit_code ?_ | refine exit_lp ?_ | refine exit_here ?_ | refine exit_there (by decide) ?_ | refine wpk_ret ?_ | ((first | refine wpk_ops ?_ | refine wpk_draw0 ?_ | refine wpk_drawS rfl rfl ?_ | refine wpk_drawC rfl ?_ | refine wpk_condE ?_); simp only [y_wire_Reader_Hash.down, cintV_i, lemS.down, lemC.down, Int.reduceBEq, Nat.reduceAdd, Nat.reduceLeDiff, reduceIte, Nat.reduceEqDiff, Int.reduceLT, Int.reduceLE, Int.reduceGT, Int.reduceGE, Int.reduceEq, Int.reduceAdd, Int.reduceSub, Int.reduceMul, reduceCtorEq, lemH.down, e3])))
    exact ⟨.inr rfl, _, rfl, by simp only [y_wire_Reader_Hash.down, cintV_i, lemS.down, lemC.down, Int.reduceBEq, Nat.reduceAdd, Nat.reduceLeDiff, reduceIte, Nat.reduceEqDiff, Int.reduceLT, Int.reduceLE, Int.reduceGT, Int.reduceGE, Int.reduceEq, Int.reduceAdd, Int.reduceSub, Int.reduceMul, reduceCtorEq], r3, k3⟩
  obtain ⟨v, h', e, rfl, r⟩ := this
  exact ⟨h', e, r⟩
theorem RFail_run {pr : Prog} (T : WireTab pr) (hr : Rd h R r) (m : Nat) :
    ∃ h', cfi pr 84 [.pointer (some ⟨R, 0, none⟩), .int .i64 (OfNat.ofNat m)] h = some (.tuple #[], h') ∧ Rd h' R (if r.err = 0 then ⟨r.s, r.pos, m⟩ else r) ∧ Keeps (fun A => A = R) h h' := by
  have : ∃ v h', cfi pr 84 [.pointer (some ⟨R, 0, none⟩), .int .i64 (OfNat.ofNat m)] h = some (v, h') ∧ v = .tuple #[] ∧ Rd h' R (if r.err = 0 then ⟨r.s, r.pos, m⟩ else r) ∧ Keeps (fun A => A = R) h h' := by
    refine cfi_wp T.rf T.rfC rfl ?_
    unfold x_wire_Reader_Fail
    dsimp only [initFr]
    refine wpk.out (k := []) ?_
    by_cases h0 : r.err = 0
    · have b0 : ((r.err : Int) == 0) = true := by rw [h0]; rfl
      rw [if_pos h0]
      (repeat (first | refine wpk_seq ?_ | refine wpk_block ?_ | refine wpk_scope ?_ | refine wpk_skip ?_ | refine kont_code ?_ | refine kont_blk ?_ | refine kont_nil ?_ | refine wpk_exit ?_ | refine exit_code ?_ | refine exit_lp ?_ | refine exit_here ?_ | refine exit_there (by decide) ?_ | refine wpk_ret ?_ | ((first | refine wpk_ops ?_ | refine wpk_draw0 ?_ | refine wpk_drawS rfl rfl ?_ | refine wpk_drawC rfl ?_ | refine wpk_condE ?_); simp only [y_wire_Reader_Fail.down, cintV_i, lemS.down, lemC.down, Int.reduceBEq, Nat.reduceAdd, Nat.reduceLeDiff, reduceIte, Nat.reduceEqDiff, Int.reduceLT, Int.reduceLE, Int.reduceGT, Int.reduceGE, Int.reduceEq, Int.reduceAdd, Int.reduceSub, Int.reduceMul, reduceCtorEq, lemH.down, eqX_pn, hr.l2, b0, hr.s2L])))
      exact ⟨.inl rfl, _, rfl, rfl, hr.wr hr.1, Keeps.wr⟩
    · have b0 : ((r.err : Int) == 0) = false := by rw [beq_eq_false_iff_ne]; omega
      rw [if_neg h0]
      (repeat (first | refine wpk_seq ?_ | refine wpk_block ?_ | refine wpk_scope ?_ | refine wpk_skip ?_ | refine kont_code ?_ | refine kont_blk ?_ | refine kont_nil ?_ | refine wpk_exit ?_ | refine exit_code ?_ | refine exit_lp ?_ | refine exit_here ?_ | refine exit_there (by decide) ?_ | refine wpk_ret ?_ | ((first | refine wpk_ops ?_ | refine wpk_draw0 ?_ | refine wpk_drawS rfl rfl ?_ | refine wpk_drawC rfl ?_ | refine wpk_condE ?_); simp only [y_wire_Reader_Fail.down, cintV_i, lemS.down, lemC.down, Int.reduceBEq, Nat.reduceAdd, Nat.reduceLeDiff, reduceIte, Nat.reduceEqDiff, Int.reduceLT, Int.reduceLE, Int.reduceGT, Int.reduceGE, Int.reduceEq, Int.reduceAdd, Int.reduceSub, Int.reduceMul, reduceCtorEq, lemH.down, eqX_pn, hr.l2, b0])))
      exact ⟨.inl rfl, _, rfl, rfl, hr, Keeps.refl⟩
  obtain ⟨v, h', e, rfl, r⟩ := this
  exact ⟨h', e, r⟩
theorem REnd_run {pr : Prog} (T : WireTab pr) (hr : Rd h R r) :
    ∃ h', cfi pr 72 [.pointer (some ⟨R, 0, none⟩)] h = some (.int .i64 ((endR r).err : Int), h') ∧ Rd h' R (endR r) ∧ Keeps (fun A => A = R) h h' := by
  have : ∃ v h', cfi pr 72 [.pointer (some ⟨R, 0, none⟩)] h = some (v, h') ∧ v = .int .i64 ((endR r).err : Int) ∧ Rd h' R (endR r) ∧ Keeps (fun A => A = R) h h' := by
    refine cfi_wp T.re T.reC rfl ?_
    unfold x_wire_Reader_End
    dsimp only [initFr]
    refine wpk.out (k := []) ?_
    have lf := RLeft_run T hr
    have ok := hr.1
    unfold RS.ok at ok
    unfold endR
    by_cases h1 : 0 < r.s.length - r.pos
    · have d1 : decide ((r.s.length : Int) - r.pos > 0) = true := by simp; omega
      obtain ⟨h2, e2, r2, k2⟩ := RFail_run T hr 5
      have e2 : cfi pr 84 [.pointer (some ⟨R, 0, none⟩), .int .i64 5] h = some (.tuple #[], h2) := e2
      have er := RErr_run T r2
      have eq : (if r.err = 0 then (⟨r.s, r.pos, 5⟩ : RS) else r) = if 0 < r.s.length - r.pos ∧ r.err = 0 then ⟨r.s, r.pos, 5⟩ else r := by
        by_cases h0 : r.err = 0
        · rw [if_pos h0, if_pos ⟨h1, h0⟩]
        · rw [if_neg h0, if_neg (fun h => h0 h.2)]
      rw [eq] at r2 er
      (repeat (first | refine wpk_seq ?_ | refine wpk_block ?_ | refine wpk_scope ?_ | refine wpk_skip ?_ | refine kont_code ?_ | refine kont_blk ?_ | refine kont_nil ?_ | refine wpk_exit ?_ | refine exit_code ?_ | refine exit_lp ?_ | refine exit_here ?_ | refine exit_there (by decide) ?_ | refine wpk_ret ?_ | ((first | refine wpk_ops ?_ | refine wpk_draw0 ?_ | refine wpk_drawS rfl rfl ?_ | refine wpk_drawC rfl ?_ | refine wpk_condE ?_); simp only [y_wire_Reader_End.down, cintV_i, lemS.down, lemC.down, Int.reduceBEq, Nat.reduceAdd, Nat.reduceLeDiff, reduceIte, Nat.reduceEqDiff, Int.reduceLT, Int.reduceLE, Int.reduceGT, Int.reduceGE, Int.reduceEq, Int.reduceAdd, Int.reduceSub, Int.reduceMul, reduceCtorEq, lemH.down, lf, d1, e2, er])))
      exact ⟨.inr rfl, _, rfl, by simp only [y_wire_Reader_End.down, cintV_i, lemS.down, lemC.down, Int.reduceBEq, Nat.reduceAdd, Nat.reduceLeDiff, reduceIte, Nat.reduceEqDiff, Int.reduceLT, Int.reduceLE, Int.reduceGT, Int.reduceGE, Int.reduceEq, Int.reduceAdd, Int.reduceSub, Int.reduceMul, reduceCtorEq], r2, k2⟩
    · have d1 : decide ((r.s.length : Int) - r.pos > 0) = false := by simp; omega
      have er := RErr_run T hr
      rw [if_neg (fun h => h1 h.1)]
      (repeat (first | refine wpk_seq ?_ | refine wpk_block ?_ | refine wpk_scope ?_ | refine wpk_skip ?_ | refine kont_code ?_ | refine kont_blk ?_ | refine kont_nil ?_ | refine wpk_exit ?_ | refine exit_code ?_ | refine exit_lp ?_ | refine exit_here ?_ | refine exit_there (by decide) ?_ | refine wpk_ret ?_ | ((first | refine wpk_ops ?_ | refine wpk_draw0 ?_ | refine wpk_drawS rfl rfl ?_ | refine wpk_drawC rfl ?_ | refine wpk_condE ?_); simp only [y_wire_Reader_End.down, cintV_i, lemS.down, lemC.down, Int.reduceBEq, Nat.reduceAdd, Nat.reduceLeDiff, reduceIte, Nat.reduceEqDiff, Int.reduceLT, Int.reduceLE, Int.reduceGT, Int.reduceGE, Int.reduceEq, Int.reduceAdd, Int.reduceSub, Int.reduceMul, reduceCtorEq, lemH.down, lf, d1, er])))
      exact ⟨.inr rfl, _, rfl, by simp only [y_wire_Reader_End.down, cintV_i, lemS.down, lemC.down, Int.reduceBEq, Nat.reduceAdd, Nat.reduceLeDiff, reduceIte, Nat.reduceEqDiff, Int.reduceLT, Int.reduceLE, Int.reduceGT, Int.reduceGE, Int.reduceEq, Int.reduceAdd, Int.reduceSub, Int.reduceMul, reduceCtorEq], hr, Keeps.refl⟩
  obtain ⟨v, h', e, rfl, r⟩ := this
  exact ⟨h', e, r⟩
end
end Go.X
end
