/- Plain lemmas on numbers, lists and events; no program is in sight here. -/
import Derived.Test.YtbdfidnldaghbaaWMore
import Derived.Test.YtbdfidnldaghbaaWSized
import Derived.Lib.Strings
/- The printed rows name this word by its short name: here it is found. -/
namespace Go.Proofs.Ytbdfidnldaghbaa.PrintWords
abbrev sized_ints := @Go.Proofs.YtbdfidnldaghbaaW.PrintWords.sized_ints
end Go.Proofs.Ytbdfidnldaghbaa.PrintWords
set_option linter.unusedVariables false
set_option linter.unusedSimpArgs false
namespace Go.Proofs.Ytbdfidnldaghbaa.Lib
open Go Go.RowKit Go.Proofs.YtbdfidnldaghbaaW.PrintWords Go.Proofs.YtbdfidnldaghbaaW.PrintLast Go.Proofs.YtbdfidnldaghbaaW.PrintMore

/-! Plain lemmas: numbers, lists, events. No program is in sight here. -/

theorem w64 {x : Int} (h : -9223372036854775808 ≤ x ∧ x ≤ 9223372036854775807) : wrap64 x = x := by unfold wrap64; omega
theorem i64_of {x : Int} (h : (Lit.int .i64 x).wf = true) : -9223372036854775808 ≤ x ∧ x ≤ 9223372036854775807 := by
  simp [Lit.wf, IntKind.min, IntKind.max, IntKind.signed, IntKind.bits] at h; omega
theorem u8_of {x : Int} (h : (Lit.int .u8 x).wf = true) : 0 ≤ x ∧ x ≤ 255 := by
  simp [Lit.wf, IntKind.min, IntKind.max, IntKind.signed, IntKind.bits] at h; omega

theorem take_set_at {α : Type} (xs ys : List α) (i : Nat) (x : α) (hl : ys.length = xs.length) (hi : i < xs.length) (hx : xs[i]? = some x) (h : ys.take i = xs.take i) : (ys.set i x).take (i + 1) = xs.take (i + 1) := by
  apply List.ext_getElem?
  intro j
  rw [List.getElem?_take, List.getElem?_take]
  split
  · rename_i hj
    by_cases e : j = i
    · subst e; rw [List.getElem?_set_self (by omega), hx]
    · rw [List.getElem?_set_ne (Ne.symm e)]
      have := congrArg (fun l => l[j]?) h
      simpa [List.getElem?_take, show j < i by omega] using this
  · rfl
theorem take_eq_all {α : Type} {xs ys : List α} {i : Nat} (hl : ys.length = xs.length) (hi : xs.length ≤ i) (h : ys.take i = xs.take i) : ys = xs := by
  rwa [List.take_of_length_le (by omega), List.take_of_length_le hi] at h
theorem rd_get (xs : List Int) (i : Nat) (h : i < xs.length) : xs[i]? = some (rd xs (i : Int)) := by
  simp [rd, h]
theorem rd_mem {xs : List Int} {i : Int} (h0 : 0 ≤ i) (h : i < xs.length) : rd xs i ∈ xs := by
  have := rd_get xs i.toNat (by omega)
  rw [show ((i.toNat : Nat) : Int) = i by omega] at this
  exact List.mem_of_getElem? this
theorem rd_set_self (xs : List Int) (i : Nat) (x : Int) (h : i < xs.length) : rd (xs.set i x) (i : Int) = x := by
  simp [rd, h]
theorem rd_set_ne (xs : List Int) (i j : Nat) (x : Int) (h : i ≠ j) : rd (xs.set i x) (j : Int) = rd xs (j : Int) := by
  simp [rd, List.getD, h]

/-- Two events one behind the other, the first one's answer known. -/
theorem Ev.bind' {α β : Type} {g : Nat → Option α} {f : Nat → α → Option β} {a : α} {r : β} (h : Ev g a) (k : Ev (fun n => f n a) r) : Ev (fun n => (g n).bind (f n)) r := Ev.bind h k
theorem Ev.const {α : Type} {o : Option α} {r : α} (h : o = some r) : Ev (fun _ => o) r := by subst h; exact Ev.now r
theorem Ev.eq {α : Type} {g : Nat → Option α} {r r' : α} (h : Ev g r) (e : r = r') : Ev g r' := e ▸ h
theorem Ev.ex {α : Type} {g : Nat → Option α} {r : α} (h : Ev g r) : ∃ k, g k = some r := Ev.rounds h

/-! ### Numbers as bytes -/
theorem tmod_nn {a b : Int} (h : 0 ≤ a) : Int.tmod a b = a % b := Int.tmod_eq_emod_of_nonneg h
theorem tdiv_nn {a b : Int} (h : 0 ≤ a) : Int.tdiv a b = a / b := Int.tdiv_eq_ediv_of_nonneg h
theorem tdiv_neg' {a b : Int} (h : 0 ≤ a) : Int.tdiv (-a) b = -(a / b) := by rw [Int.neg_tdiv, tdiv_nn h]
def isNumB (x : Int) : Bool := decide (-1000000 ≤ x ∧ x ≤ 1000000)
def zig (x : Int) : Int := if x < 0 then -2 * x - 1 else 2 * x
def groups (n : Int) : List Int :=
  if n < 128 then [n] else if n < 16384 then [n % 128 + 128, n / 128] else [n % 128 + 128, n / 128 % 128 + 128, n / 16384]
def putNum (x : Int) : List Int := if isNumB x = true then groups (zig x) else []
theorem putNum_length (x : Int) : (putNum x).length ≤ 3 := by
  unfold putNum groups; repeat' split
  all_goals simp
theorem groups_range {n : Int} (h : 0 ≤ n ∧ n < 2097152) : ∀ x ∈ groups n, 0 ≤ x ∧ x ≤ 255 := by
  unfold groups; repeat' split
  all_goals simp; omega
theorem zig_range {x : Int} (h : isNumB x = true) : 0 ≤ zig x ∧ zig x < 2000001 := by
  simp [isNumB] at h
  unfold zig; split <;> omega
theorem putNum_range (x : Int) : ∀ y ∈ putNum x, 0 ≤ y ∧ y ≤ 255 := by
  unfold putNum
  split
  · rename_i h; have := zig_range h; exact groups_range (by omega)
  · simp
def takeFin (u v i p : Int) : Int × Int :=
  if (v = 0 ∧ 0 < i) ∨ isNumB (if u % 2 = 1 then -((u + 1) / 2) else u / 2) = false then (0, -1) else (if u % 2 = 1 then -((u + 1) / 2) else u / 2, p + i + 1)
def takeNum (b : List Int) (p : Int) : Int × Int :=
  if p < 0 ∨ (b.length : Int) ≤ p then (0, -1) else
  if rd b p < 128 then takeFin (rd b p) (rd b p) 0 p else
  if (b.length : Int) ≤ p + 1 then (0, -1) else
  if rd b (p + 1) < 128 then takeFin (rd b p % 128 + rd b (p + 1) * 128) (rd b (p + 1)) 1 p else
  if (b.length : Int) ≤ p + 2 then (0, -1) else
  if rd b (p + 2) < 128 then takeFin (rd b p % 128 + rd b (p + 1) % 128 * 128 + rd b (p + 2) * 16384) (rd b (p + 2)) 2 p else (0, -1)
/-- All of a list are bytes. -/
def Bytes (b : List Int) : Prop := ∀ x ∈ b, 0 ≤ x ∧ x ≤ 255
theorem Bytes_rd {b : List Int} (h : Bytes b) (p : Int) : 0 ≤ rd b p ∧ rd b p ≤ 255 := by
  by_cases hp : p.toNat < b.length
  · have : b[p.toNat]? = some (rd b p) := by simp [rd, hp]
    exact h _ (List.mem_of_getElem? this)
  · simp [rd, List.getD, List.getElem?_eq_none (show b.length ≤ p.toNat by omega)]
theorem Bytes_of {b : List Int} (h : ∀ x ∈ b, (Lit.int .u8 x).wf = true) : Bytes b := fun x hx => u8_of (h x hx)
theorem takeFin_next (u v i p : Int) (hp : 0 ≤ p) (hi : 0 ≤ i) : (takeFin u v i p).2 = -1 ∧ (takeFin u v i p).1 = 0 ∨ (takeFin u v i p).2 = p + i + 1 ∧ isNumB (takeFin u v i p).1 = true := by
  unfold takeFin
  generalize (if u % 2 = 1 then -((u + 1) / 2) else u / 2) = x
  by_cases h : (v = 0 ∧ 0 < i) ∨ isNumB x = false
  · left; rw [if_pos h]; exact ⟨rfl, rfl⟩
  · right; rw [if_neg h]
    simp only [not_or, Bool.not_eq_false] at h
    exact ⟨rfl, h.2⟩
theorem takeNum_next (b : List Int) (p : Int) : (takeNum b p).2 = -1 ∧ (takeNum b p).1 = 0 ∨ 0 ≤ p ∧ p < (takeNum b p).2 ∧ (takeNum b p).2 ≤ b.length ∧ (takeNum b p).2 ≤ p + 3 ∧ isNumB (takeNum b p).1 = true := by
  unfold takeNum
  split
  · left; simp
  rename_i h0
  split
  · rcases takeFin_next (rd b p) (rd b p) 0 p (by omega) (by omega) with h | h
    · left; exact h
    · right; refine ⟨by omega, by omega, by omega, by omega, h.2⟩
  split
  · left; simp
  split
  · rcases takeFin_next (rd b p % 128 + rd b (p + 1) * 128) (rd b (p + 1)) 1 p (by omega) (by omega) with h | h
    · left; exact h
    · right; refine ⟨by omega, by omega, by omega, by omega, h.2⟩
  split
  · left; simp
  split
  · rcases takeFin_next (rd b p % 128 + rd b (p + 1) % 128 * 128 + rd b (p + 2) * 16384) (rd b (p + 2)) 2 p (by omega) (by omega) with h | h
    · left; exact h
    · right; refine ⟨by omega, by omega, by omega, by omega, h.2⟩
  · left; simp

theorem isNumB_eq (x : Int) : isNumB x = decide (-1000000 ≤ x ∧ x ≤ 1000000) := rfl
theorem u64_small {x : Int} (h : 0 ≤ x ∧ x < 18446744073709551616) : IntKind.u64.wrap x = x := by
  simp [IntKind.wrap, IntKind.signed, IntKind.bits]; omega
theorem i64_small {x : Int} (h : -9223372036854775808 ≤ x ∧ x ≤ 9223372036854775807) : IntKind.i64.wrap x = x := by
  simp [IntKind.wrap, IntKind.signed, IntKind.bits]; omega
theorem shl_i64 (x y : Int) (n : Nat) (hy : y = n) (hn : n ≤ 64) (hx : -9223372036854775808 ≤ x * 2 ^ n ∧ x * 2 ^ n ≤ 9223372036854775807) : shl .i64 x y = x * 2 ^ n := by
  unfold shl
  subst hy
  rw [show min (n : Int).toNat IntKind.i64.bits = n by simp [IntKind.bits]; omega]
  exact i64_small hx
def arity (k : Int) : Int := if k = 0 then 0 else if k = 3 ∨ k = 4 then 2 else if k = 1 ∨ k = 2 ∨ k = 5 ∨ k = 6 ∨ k = 7 then 1 else -1
def okAt (s : ByteArray) (i : Nat) : Bool := decide ((97 ≤ bt s i ∧ bt s i ≤ 122) ∨ (0 < i ∧ 48 ≤ bt s i ∧ bt s i ≤ 57))
def wordFrom (s : ByteArray) : Nat → Nat → Bool
  | 0, _ => true
  | d + 1, i => okAt s i && wordFrom s d (i + 1)
def wordOk (s : ByteArray) : Bool := decide (1 ≤ s.size ∧ s.size ≤ 12) && wordFrom s s.size 0
def checkTo (b : List Int) : Nat → Int
  | 0 => 5
  | i + 1 => (269 * checkTo b i + rd b i) % 999983
def checkOf (b : List Int) : Int := checkTo b b.length
theorem checkTo_range (b : List Int) (i : Nat) : 0 ≤ checkTo b i ∧ checkTo b i < 999983 := by
  cases i with
  | zero => simp [checkTo]
  | succ i => unfold checkTo; omega
theorem drop_rd (l : List Int) (i : Nat) (h : i < l.length) : l.drop i = rd l i :: l.drop (i + 1) := by
  rw [List.drop_eq_getElem_cons h]
  congr 1
  have := rd_get l i h
  rw [List.getElem?_eq_getElem h] at this
  injection this
theorem take_rd (l : List Int) (i : Nat) (h : i < l.length) : l.take i ++ [rd l i] = l.take (i + 1) := by
  rw [List.take_add_one, rd_get l i h]; rfl
/-- As many numbers, one behind the other. -/
def numsFrom (b : List Int) : Nat → List Int → Int → List Int × Int
  | 0, acc, p => (acc, p)
  | n + 1, acc, p => if (takeNum b p).2 < 0 then ([], -1) else numsFrom b n (acc ++ [(takeNum b p).1]) (takeNum b p).2
def takeNums (b : List Int) (p : Int) : List Int × Int :=
  if (takeNum b p).2 < 0 ∨ ¬ (0 ≤ (takeNum b p).1 ∧ (takeNum b p).1 ≤ 300) then ([], -1) else numsFrom b (takeNum b p).1.toNat [] (takeNum b p).2
theorem takeNum_lo (b : List Int) (p : Int) : -1 ≤ (takeNum b p).2 ∧ (takeNum b p).2 ≤ b.length := by
  rcases takeNum_next b p with h | h <;> omega
theorem numsFrom_len (b : List Int) : ∀ (n : Nat) (acc : List Int) (p : Int), (numsFrom b n acc p).1.length ≤ acc.length + n
  | 0, acc, p => by simp [numsFrom]
  | n + 1, acc, p => by
    unfold numsFrom
    split
    · simp
    · have := numsFrom_len b n (acc ++ [(takeNum b p).1]) (takeNum b p).2
      simp at this; omega
theorem takeNums_len (b : List Int) (p : Int) : (takeNums b p).1.length ≤ 300 := by
  unfold takeNums
  split
  · simp
  · have := numsFrom_len b (takeNum b p).1.toNat [] (takeNum b p).2
    simp at this; omega
def putsFrom : List Int → List Int → List Int
  | [], acc => acc
  | x :: r, acc => if isNumB x = true then putsFrom r (acc ++ putNum x) else []
def putNums (l : List Int) : List Int := if 300 < l.length then [] else putsFrom l (putNum l.length)
theorem putsFrom_len : ∀ (r acc : List Int), (putsFrom r acc).length ≤ acc.length + 3 * r.length
  | [], acc => by simp [putsFrom]
  | x :: r, acc => by
    unfold putsFrom
    split
    · have := putsFrom_len r (acc ++ putNum x)
      have := putNum_length x
      simp at *; omega
    · simp
theorem putNums_len (l : List Int) : (putNums l).length ≤ 903 := by
  unfold putNums
  split
  · simp
  · have := putsFrom_len l (putNum l.length)
    have := putNum_length l.length
    omega
/-- Value by value from the front on, the shorter one less where it is the beginning: -1, 0, 1. -/
def cmpL : List Int → List Int → Int
  | [], [] => 0
  | [], _ :: _ => -1
  | _ :: _, [] => 1
  | x :: a, y :: b => if x < y then -1 else if y < x then 1 else cmpL a b
theorem drop_nil' {α : Type} {l : List α} {i : Nat} (h : l.length ≤ i) : l.drop i = [] := List.drop_eq_nil_of_le h
theorem list_eq_drop {l m : List Int} {i : Nat} (hl : i < l.length) (hm : i < m.length) : decide (l.drop i = m.drop i) = (decide (rd l i = rd m i) && decide (l.drop (i + 1) = m.drop (i + 1))) := by
  rw [drop_rd l i hl, drop_rd m i hm]
  simp [List.cons.injEq, Bool.decide_and]
theorem eq_drop {l m : List Int} {i : Nat} (hl : i < l.length) (hm : i < m.length) : (l.drop i = m.drop i) ↔ (rd l i = rd m i ∧ l.drop (i + 1) = m.drop (i + 1)) := by
  rw [drop_rd l i hl, drop_rd m i hm, List.cons.injEq]
/-- How many of a list are the one. -/
def countL (r : List Int) : List (List Int) → Int
  | [] => 0
  | x :: l => (if x = r then 1 else 0) + countL r l
theorem countL_range (r : List Int) : ∀ l, 0 ≤ countL r l ∧ countL r l ≤ l.length
  | [] => by simp [countL]
  | x :: l => by
    have := countL_range r l
    simp only [countL, List.length_cons]
    split <;> omega
theorem drop_getD {α : Type} (l : List α) (z : α) (i : Nat) (h : i < l.length) : l.drop i = l.getD i z :: l.drop (i + 1) := by
  rw [List.drop_eq_getElem_cons h]
  simp [List.getD, h]
theorem getD_mem {α : Type} {l : List α} {z : α} {i : Nat} (h : i < l.length) : l.getD i z ∈ l := by
  simp [List.getD, h]
theorem toList_len (s : ByteArray) : s.toList.length = s.size := by rw [Lib.toList_data, Array.length_toList]; rfl
theorem toList_drop (s : ByteArray) (i : Nat) (h : i < s.size) : ∃ x : UInt8, s.toList.drop i = x :: s.toList.drop (i + 1) ∧ (x.toNat : Int) = bt s i := by
  refine ⟨s[i], ?_, ?_⟩
  · rw [List.drop_eq_getElem_cons (show i < s.toList.length by rw [toList_len]; exact h)]
    congr 1
    simp only [Lib.toList_data]
    rfl
  · have := bt_at s i (by simpa using h)
    simpa using this
theorem toList_end (s : ByteArray) (i : Nat) (h : s.size ≤ i) : s.toList.drop i = [] := List.drop_eq_nil_of_le (by rw [toList_len]; exact h)
theorem bytesLess_cons {x y : UInt8} {a b : Int} (hx : (x.toNat : Int) = a) (hy : (y.toNat : Int) = b) (l m : List UInt8) : Op.bytesLess (x :: l) (y :: m) = (decide (a < b) || (decide (a = b) && Op.bytesLess l m)) := by
  subst hx hy
  have e1 : (x < y) ↔ ((x.toNat : Int) < (y.toNat : Int)) := by rw [UInt8.lt_iff_toNat_lt]; omega
  have e2 : (x = y) ↔ ((x.toNat : Int) = (y.toNat : Int)) := by rw [← UInt8.toNat_inj]; omega
  rw [show Op.bytesLess (x :: l) (y :: m) = (decide (x < y) || (x == y && Op.bytesLess l m)) from rfl]
  rw [show (x == y) = decide ((x.toNat : Int) = (y.toNat : Int)) by rw [Bool.eq_iff_iff]; simp [e2]]
  rw [show decide (x < y) = decide ((x.toNat : Int) < (y.toNat : Int)) by rw [decide_eq_decide]; exact e1]
theorem Ev_ite {α : Type} {c : Prop} [Decidable c] {F G : Nat → Option α} {r : α} (hF : c → Ev F r) (hG : ¬ c → Ev G r) : Ev (fun k => if c then F k else G k) r := by
  by_cases h : c
  · simp only [if_pos h]; exact hF h
  · simp only [if_neg h]; exact hG h
def colB (c : Int) : Bool := decide (0 ≤ c ∧ c ≤ 63)
def slotB (c : Int) : Bool := decide (0 ≤ c ∧ c ≤ 39)
/-- What no node may have, by its kind. -/
def nodePre (kind : Int) (name : ByteArray) (op num : Int) (slot : Bool) (cols : List Int) : Bool :=
  decide ((kind ≠ 0 ∧ name.toList ≠ []) ∨ (kind ≠ 2 ∧ cols ≠ []) ∨ (kind ≠ 1 ∧ op ≠ 0) ∨ (slot = true ∧ slotB num = false))
def nodeKind (kind : Int) (name : ByteArray) (col op num : Int) (slot : Bool) (cols : List Int) : Bool :=
  if kind = 0 then wordOk name && decide (col = 0 ∧ num = 0 ∧ slot = false)
  else if kind = 1 then colB col && decide (0 ≤ op ∧ op ≤ 3) && isNumB num && decide (op = 3 → num = 0 ∧ slot = false)
  else if kind = 2 then cols.all colB && decide (1 ≤ cols.length ∧ cols.length ≤ 6) && decide (col = 0 ∧ num = 0 ∧ slot = false)
  else if kind = 3 then colB col && colB num && !slot
  else if kind = 5 then colB col && decide (num = 0 ∧ slot = false)
  else if kind = 6 then decide (col = 0) && decide (0 ≤ num ∧ num ≤ 1000000)
  else if kind = 4 ∨ kind = 7 then decide (col = 0 ∧ num = 0 ∧ slot = false)
  else false
def nodeOk (kind : Int) (name : ByteArray) (col op num : Int) (slot : Bool) (cols : List Int) : Bool := !nodePre kind name op num slot cols && nodeKind kind name col op num slot cols
end Go.Proofs.Ytbdfidnldaghbaa.Lib
