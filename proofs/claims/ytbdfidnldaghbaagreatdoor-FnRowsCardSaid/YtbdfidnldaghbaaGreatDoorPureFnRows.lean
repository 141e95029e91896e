/- Of every list of bytes: the rows drawn from it are sorted alike by the program and the reference, each row's text is read back to the row, the sorted rows hold each row as often, in order, and the two are the same bag. -/
import Derived.Test.YtbdfidnldaghbaaGreatDoorQx7
import Derived.Test.YtbdfidnldaghbaaGreatDoorShapes
import Derived.Test.YtbdfidnldaghbaaGreatDoorLib
set_option linter.unusedVariables false
set_option linter.unusedSimpArgs false
namespace Go.Proofs.YtbdfidnldaghbaaGreatDoor.Pure
namespace EFnRows
open Go.RowKit Go.Proofs.YtbdfidnldaghbaaGreatDoorW.PrintWords Go.Proofs.YtbdfidnldaghbaaGreatDoorW.PrintLast Go.Proofs.YtbdfidnldaghbaaGreatDoorW.PrintMore Go.Proofs.YtbdfidnldaghbaaGreatDoor.Lib Go.Proofs.YtbdfidnldaghbaaGreatDoor.Q

theorem impl_in_eq (a b c : Int) : impl_in.f a b c = some (decide (b ≤ a ∧ a ≤ c)) := by
  unfold impl_in.f
  by_cases h : b ≤ a
  · rw [if_pos h]; simp [h]
  · rw [if_neg (show ¬ a ≥ b from h)]; simp [h]

def colFrom (c : Int) : List (List Int) → List Int
  | [] => []
  | r :: rs => if c < r.length then rd r c :: colFrom c rs else colFrom c rs
def colOf (c : Int) (l : List (List Int)) : List Int := if c < 0 then [] else colFrom c l
theorem colFrom_length (c : Int) : ∀ l, (colFrom c l).length ≤ l.length
  | [] => by simp [colFrom]
  | r :: rs => by
    have := colFrom_length c rs
    unfold colFrom
    split <;> simp <;> omega
theorem colOf_length (c : Int) (l : List (List Int)) : (colOf c l).length ≤ l.length := by
  unfold colOf
  split
  · simp
  · exact colFrom_length c l

theorem in_eq (a b c : Int) : impl_in.f a b c = some (decide (b ≤ a ∧ a ≤ c)) := by
  unfold impl_in.f
  by_cases h : a ≥ b
  · rw [if_pos h]; simp [show b ≤ a from h]
  · rw [if_neg h]; simp [show ¬ b ≤ a from h]
theorem ev_impl_ColumnOf_l0 (x0 : List (List Int)) (c : Int) (hl : x0.length ≤ 1048576) (hr : ∀ r ∈ x0, r.length ≤ 1048576) : ∀ (d : Nat) (acc : List Int) (i : Nat), i + d = x0.length → acc.length ≤ i → Ev (fun k => impl_ColumnOf.l0 k c acc x0 x0.length i) (acc ++ colOf c (x0.drop i)) := by
  intro d
  induction d with
  | zero =>
    intro acc i h1 h2
    apply Ev.step
    · intro k; rw [impl_ColumnOf.l0]
    simp only [if_neg (show ¬ ((i : Int) < x0.length) by omega)]
    rw [List.drop_eq_nil_of_le (by omega), show colOf c [] = [] by simp [colOf, colFrom], List.append_nil]
    exact Ev.now _
  | succ d ih =>
    intro acc i h1 h2
    have hd : x0.drop i = rd_L2 x0 i :: x0.drop (i + 1) := by rw [drop_getD x0 [] i (by omega)]; simp [rd_L2]
    have hmm : rd_L2 x0 i ∈ x0.drop i := by rw [hd]; exact List.mem_cons_self
    have hm : (rd_L2 x0 i).length ≤ 1048576 := hr _ (List.mem_of_mem_drop hmm)
    have i1 := ih (acc ++ [rd (rd_L2 x0 i) c]) (i + 1) (by omega) (by simp; omega)
    have i2 := ih acc (i + 1) (by omega) (by omega)
    apply Ev.step
    · intro k; rw [impl_ColumnOf.l0]
    simp only [if_pos (show (i : Int) < x0.length by omega), if_pos (show (0 : Int) ≤ i by omega), w64 (x := (i : Int) + 1) (by omega), w64 (x := ((rd_L2 x0 (i : Int)).length : Int) - 1) (by omega), in_eq, Option.bind_some, decide_eq_true_eq]
    rw [hd]
    by_cases h3 : 0 ≤ c ∧ c ≤ ((rd_L2 x0 (i : Int)).length : Int) - 1
    · simp only [if_pos h3, if_pos h3.1, if_pos (show c < ((rd_L2 x0 (i : Int)).length : Int) by omega), if_pos (show acc.length < 17592186044416 by omega)]
      rw [show colOf c (rd_L2 x0 (i : Int) :: x0.drop (i + 1)) = rd (rd_L2 x0 (i : Int)) c :: colOf c (x0.drop (i + 1)) by
        simp only [colOf, if_neg (show ¬ c < 0 by omega), colFrom, if_pos (show c < ((rd_L2 x0 (i : Int)).length : Int) by omega)]]
      simpa using i1
    · simp only [if_neg h3]
      rw [show colOf c (rd_L2 x0 (i : Int) :: x0.drop (i + 1)) = colOf c (x0.drop (i + 1)) by
        by_cases h4 : c < 0
        · simp only [colOf, if_pos h4]
        · simp only [colOf, if_neg h4, colFrom, if_neg (show ¬ c < ((rd_L2 x0 (i : Int)).length : Int) by omega)]]
      simpa using i2
theorem ev_impl_ColumnOf (l : List (List Int)) (c : Int) (hl : l.length ≤ 1048576) (hr : ∀ r ∈ l, r.length ≤ 1048576) : Ev (fun k => impl_ColumnOf.f k l c) (colOf c l) := by
  simpa [impl_ColumnOf.f] using ev_impl_ColumnOf_l0 l c hl hr l.length [] 0 (by omega) (by simp)

theorem ev_slices_Equal_int_int_l0 (a b : List Int) (hl : a.length = b.length) (ha : a.length ≤ 1099511627776) : ∀ (d i : Nat), i + d = a.length → Ev (fun k => slices_Equal_int_int.l0 k a b (a.length : Int) i) (decide (a.drop i = b.drop i)) := by
  intro d
  induction d with
  | zero =>
    intro i h
    apply Ev.step
    · intro k; rw [slices_Equal_int_int.l0]
    simp only [if_neg (show ¬ ((i : Int) < a.length) by omega), drop_nil' (show a.length ≤ i by omega), drop_nil' (show b.length ≤ i by omega)]
    exact Ev.const (by simp)
  | succ d ih =>
    intro i h
    have ih' := ih (i + 1) (by omega)
    apply Ev.step
    · intro k; rw [slices_Equal_int_int.l0]
    simp only [if_pos (show (i : Int) < a.length by omega), if_pos (show (i : Int) < b.length by omega), if_pos (show (0 : Int) ≤ i by omega), w64 (x := (i : Int) + 1) (by omega), eq_drop (show i < a.length by omega) (show i < b.length by omega)]
    by_cases he : rd a i = rd b i
    · simp only [if_pos he]
      simpa [he] using ih'
    · simp only [if_neg he]
      exact Ev.const (by simp [he])
theorem ev_slices_Equal_int_int (a b : List Int) (ha : a.length ≤ 1099511627776) : Ev (fun k => slices_Equal_int_int.f k a b) (decide (a = b)) := by
  simp only [slices_Equal_int_int.f]
  by_cases hl : a.length = b.length
  · simp only [if_pos (show (a.length : Int) = b.length by omega)]
    simpa using ev_slices_Equal_int_int_l0 a b hl ha a.length 0 (by omega)
  · simp only [if_neg (show ¬ (a.length : Int) = b.length by omega)]
    exact Ev.const (congrArg some (decide_eq_false (fun h => hl (by rw [h]))).symm)

theorem ev_impl_CountSame_l0 (l : List (List Int)) (r : List Int) (hl : l.length ≤ 1099511627776) (hr : r.length ≤ 1099511627776) (hs : ∀ x ∈ l, x.length ≤ 1099511627776) : ∀ (d i : Nat) (c : Int), i + d = l.length → 0 ≤ c → c ≤ i → Ev (fun k => impl_CountSame.l0 k r c l (l.length : Int) i) (c + countL r (l.drop i)) := by
  intro d
  induction d with
  | zero =>
    intro i c h h0 h1
    apply Ev.step
    · intro k; rw [impl_CountSame.l0]
    simp only [if_neg (show ¬ ((i : Int) < l.length) by omega), drop_nil' (show l.length ≤ i by omega)]
    exact Ev.const (by simp [countL])
  | succ d ih =>
    intro i c h h0 h1
    have hm := hs _ (getD_mem (z := []) (show i < l.length by omega))
    rw [drop_getD l [] i (by omega), countL]
    apply Ev.step
    · intro k; rw [impl_CountSame.l0]
    simp only [if_pos (show (i : Int) < l.length by omega), if_pos (show (0 : Int) ≤ i by omega), w64 (x := (i : Int) + 1) (by omega), w64 (x := c + 1) (by omega), rd_L2, Int.toNat_natCast]
    refine Ev.bind (ev_slices_Equal_int_int (l.getD i []) r hm) ?_
    by_cases he : l.getD i [] = r
    · simp only [decide_eq_true he, if_true, if_pos he]
      have := ih (i + 1) (c + 1) (by omega) (by omega) (by omega)
      rw [← Int.add_assoc]
      simpa using this
    · simp only [decide_eq_false he, if_neg Bool.false_ne_true, if_neg he]
      have := ih (i + 1) c (by omega) (by omega) (by omega)
      rw [Int.zero_add]
      simpa using this
theorem ev_impl_CountSame (l : List (List Int)) (r : List Int) (hl : l.length ≤ 1099511627776) (hr : r.length ≤ 1099511627776) (hs : ∀ x ∈ l, x.length ≤ 1099511627776) : Ev (fun k => impl_CountSame.f k l r) (countL r l) := by
  have := ev_impl_CountSame_l0 l r hl hr hs l.length 0 0 (by omega) (by omega) (by omega)
  simpa [impl_CountSame.f] using this

-- a text parted at one byte
def spG (c : UInt8) (cur : List UInt8) : List UInt8 → List (List UInt8)
  | [] => [cur]
  | b :: l => if b = c then cur :: spG c [] l else spG c (cur ++ [b]) l
theorem idx_at (c : UInt8) (l : List UInt8) : ∀ cur : List UInt8, c ∉ cur → Go.Lib.indexByte (cur ++ c :: l) c = (cur.length : Int)
  | [], _ => by simp [Go.Lib.indexByte]
  | b :: cur, h => by
    have h1 : b ≠ c := fun e => h (by rw [e]; exact List.mem_cons_self)
    have ih := idx_at c l cur (fun e => h (List.mem_cons_of_mem _ e))
    show Go.Lib.indexByte (b :: (cur ++ c :: l)) c = _
    unfold Go.Lib.indexByte
    rw [if_neg (by simpa using h1), ih, if_neg (by simp)]
    simp
theorem idx_none (c : UInt8) : ∀ cur : List UInt8, c ∉ cur → Go.Lib.indexByte cur c = -1
  | [], _ => rfl
  | b :: cur, h => by
    have h1 : b ≠ c := fun e => h (by rw [e]; exact List.mem_cons_self)
    have ih := idx_none c cur (fun e => h (List.mem_cons_of_mem _ e))
    unfold Go.Lib.indexByte
    rw [if_neg (by simpa using h1), ih]
    simp
theorem splitK_spG (c : UInt8) : ∀ (l cur : List UInt8), c ∉ cur → Go.Lib.splitK [c] 0 (Go.Lib.count (cur ++ l) [c]) (cur ++ l) = spG c cur l := by
  intro l
  induction l with
  | nil =>
    intro cur h
    rw [Go.Lib.count_one, List.append_nil, List.count_eq_zero.2 h]
    rfl
  | cons b l ih =>
    intro cur h
    by_cases e : b = c
    · subst e
      have hi : Go.Lib.index (cur ++ b :: l) [b] = (cur.length : Int) := by rw [Go.Lib.index_one]; exact idx_at b l cur h
      have hc : Go.Lib.count (cur ++ b :: l) [b] = Go.Lib.count l [b] + 1 := by
        rw [Go.Lib.count_one, Go.Lib.count_one, List.count_append, List.count_eq_zero.2 h, List.count_cons_self]; omega
      rw [hc, Go.Lib.splitK, hi, if_neg (by simp), spG, if_pos rfl]
      have := ih [] (by simp)
      rw [List.nil_append] at this
      simp only [Int.toNat_natCast, Nat.add_zero, List.length_cons, List.length_nil, Nat.zero_add]
      rw [List.take_left, show (cur ++ b :: l).drop (cur.length + 1) = l by rw [← List.drop_drop, List.drop_left]; rfl, this]
    · have hq : c ∉ cur ++ [b] := by
        intro q
        rcases List.mem_append.1 q with q | q
        · exact h q
        · exact e (List.mem_singleton.1 q).symm
      rw [spG, if_neg e, ← ih (cur ++ [b]) hq]
      simp
/-- The texts of the parts. -/
def spB (S : ByteArray) (c : UInt8) : List ByteArray := (spG c [] S.data.toList).map fun l => ⟨l.toArray⟩
theorem spG_len (c : UInt8) : ∀ (l cur : List UInt8), (spG c cur l).length ≤ l.length + 1
  | [], cur => by simp [spG]
  | b :: l, cur => by
    unfold spG
    split
    · have := spG_len c l []; simp; omega
    · have := spG_len c l (cur ++ [b]); simp; omega
theorem spG_ne (c : UInt8) : ∀ (l cur : List UInt8), spG c cur l ≠ []
  | [], cur => by simp [spG]
  | b :: l, cur => by
    unfold spG
    split
    · simp
    · exact spG_ne c l (cur ++ [b])
theorem spG_join (c : UInt8) : ∀ (l cur : List UInt8), Go.Lib.join (spG c cur l) [c] = cur ++ l
  | [], cur => by simp [spG, Go.Lib.join_one]
  | b :: l, cur => by
    unfold spG
    split
    · rename_i e
      subst e
      have ih := spG_join b l []
      cases hs : spG b [] l with
      | nil => exact absurd hs (spG_ne b l [])
      | cons p ps =>
        rw [hs, Go.Lib.join_cons] at ih
        rw [Go.Lib.join_cons]
        simp only [Go.Lib.joinTail, List.map_cons, List.flatten_cons, List.nil_append] at ih ⊢
        rw [List.append_assoc, ih]
        simp
    · rw [spG_join c l (cur ++ [b])]; simp
theorem spG_app (c : UInt8) : ∀ (n l cur : List UInt8), c ∉ n → spG c cur (n ++ l) = spG c (cur ++ n) l
  | [], l, cur, _ => by simp
  | b :: n, l, cur, h => by
    have h1 : b ≠ c := fun e => h (by rw [e]; exact List.mem_cons_self)
    rw [List.cons_append, spG, if_neg h1, spG_app c n l (cur ++ [b]) (fun e => h (List.mem_cons_of_mem _ e))]
    simp
theorem spG_one (c : UInt8) (n : List UInt8) (h : c ∉ n) : spG c [] n = [n] := by
  have := spG_app c n [] [] h
  simpa [spG] using this
theorem spG_two (c : UInt8) (n r : List UInt8) (h : c ∉ n) : spG c [] (n ++ c :: r) = n :: spG c [] r := by
  rw [spG_app c n (c :: r) [] h, spG, if_pos rfl]; simp

def itoaB (n : Int) : ByteArray := ⟨(Go.Lib.itoa n).toArray⟩
theorem ba_app (a b : List UInt8) : (⟨a.toArray⟩ : ByteArray) ++ ⟨b.toArray⟩ = ⟨(a ++ b).toArray⟩ := by
  apply ByteArray.ext
  rw [ByteArray.data_append]
  simp
theorem ba_sz (a : List UInt8) : (⟨a.toArray⟩ : ByteArray).size = a.length := by simp [ByteArray.size]

theorem ba_self (b : ByteArray) : (⟨b.data.toList.toArray⟩ : ByteArray) = b := by cases b; simp

theorem split_spB (S : ByteArray) (c : UInt8) (hs : S.size < 4294967281) : strings_Split.f S (⟨#[c]⟩ : ByteArray) = some (spB S c) := by
  unfold strings_Split.f
  rw [if_pos ⟨hs, (show 1 ≤ (⟨#[c]⟩ : ByteArray).size from Nat.le_refl 1)⟩]
  congr 1
  have h1 := Lib.splitB_data (⟨#[c]⟩ : ByteArray) 0 (Lib.countB S (⟨#[c]⟩ : ByteArray)) S
  have h2 := splitK_spG c S.data.toList [] (by simp)
  rw [List.nil_append] at h2
  have h3 : Lib.countB S (⟨#[c]⟩ : ByteArray) = Lib.count S.data.toList [c] := rfl
  have h4 : (⟨#[c]⟩ : ByteArray).data.toList = [c] := rfl
  rw [h4, h3, h2] at h1
  unfold spB
  rw [← h1, List.map_map, h3]
  have : ((fun l : List UInt8 => (⟨l.toArray⟩ : ByteArray)) ∘ fun x : ByteArray => x.data.toList) = id := by funext x; exact ba_self x
  rw [this, List.map_id]

-- numerals: what is read of them, digit by digit
def isDig (c : UInt8) : Bool := decide (48 ≤ c.toNat ∧ c.toNat ≤ 57)
def valN (a : Nat) (l : List UInt8) : Nat := l.foldl (fun a c => a * 10 + (c.toNat - 48)) a
theorem dec_dig (m : Nat) : ∀ c ∈ Go.Lib.decDigits m, isDig c = true := by
  induction m using Nat.strongRecOn with
  | _ m ih =>
    have hd : ∀ j : Nat, j < 10 → isDig (UInt8.ofNat (48 + j)) = true := by
      intro j hj
      unfold isDig
      rw [decide_eq_true_eq, UInt8.toNat_ofNat']
      omega
    by_cases h : m < 10
    · rw [Go.Lib.decDigits, dif_pos h]
      intro c hc
      rw [List.mem_singleton] at hc
      subst hc
      exact hd m h
    · rw [Go.Lib.decDigits, dif_neg h]
      intro c hc
      rcases List.mem_append.1 hc with hc | hc
      · exact ih (m / 10) (by omega) c hc
      · rw [List.mem_singleton] at hc
        subst hc
        exact hd (m % 10) (by omega)
theorem val_dec (m : Nat) : valN 0 (Go.Lib.decDigits m) = m := by
  induction m using Nat.strongRecOn with
  | _ m ih =>
    by_cases h : m < 10
    · rw [Go.Lib.decDigits, dif_pos h]
      simp only [valN, List.foldl_cons, List.foldl_nil, UInt8.toNat_ofNat']
      omega
    · have := ih (m / 10) (by omega)
      rw [Go.Lib.decDigits, dif_neg h]
      simp only [valN] at this
      simp only [valN, List.foldl_append, List.foldl_cons, List.foldl_nil, this, UInt8.toNat_ofNat']
      omega
theorem valN_lt : ∀ (l : List UInt8) (a : Nat), (∀ c ∈ l, isDig c = true) → valN a l < (a + 1) * 10 ^ l.length
  | [], a, _ => by simp [valN]
  | c :: l, a, h => by
    have hc := h c List.mem_cons_self
    unfold isDig at hc
    rw [decide_eq_true_eq] at hc
    have := valN_lt l (a * 10 + (c.toNat - 48)) (fun x hx => h x (List.mem_cons_of_mem _ hx))
    have e : valN a (c :: l) = valN (a * 10 + (c.toNat - 48)) l := rfl
    rw [e, List.length_cons, Nat.pow_succ]
    refine Nat.lt_of_lt_of_le this ?_
    rw [Nat.mul_comm (10 ^ l.length) 10, ← Nat.mul_assoc]
    exact Nat.mul_le_mul_right _ (by omega)
theorem parse_dig : ∀ (l : List UInt8) (a : Nat), (∀ c ∈ l, isDig c = true) → (a + 1) * 10 ^ l.length ≤ 1000000000000000000 → Go.Lib.parseUint10 a l = .ok (valN a l)
  | [], a, _, _ => rfl
  | c :: l, a, h, hb => by
    have hc := h c List.mem_cons_self
    unfold isDig at hc
    rw [decide_eq_true_eq] at hc
    rw [List.length_cons, Nat.pow_succ, Nat.mul_comm (10 ^ l.length) 10, ← Nat.mul_assoc] at hb
    have hp : 1 ≤ 10 ^ l.length := Nat.one_le_pow _ _ (by decide)
    have hb2 : (a + 1) * 10 ≤ 1000000000000000000 := Nat.le_trans (Nat.le_mul_of_pos_right _ hp) hb
    unfold Go.Lib.parseUint10
    rw [if_pos hc, if_neg (by omega), if_neg (by omega)]
    have e : valN a (c :: l) = valN (a * 10 + (c.toNat - 48)) l := rfl
    rw [e]
    refine parse_dig l _ (fun x hx => h x (List.mem_cons_of_mem _ hx)) ?_
    exact Nat.le_trans (Nat.mul_le_mul_right _ (by omega)) hb
theorem dec_ne (m : Nat) : Go.Lib.decDigits m ≠ [] := by
  intro h
  have := Go.Lib.decDigits_length m
  rw [h] at this
  have := Go.Lib.nDigits_pos m
  simp at *
  omega
theorem nDig7 (m : Nat) (h : m ≤ 1000000) : Go.Lib.nDigits m ≤ 7 := by
  by_cases h0 : m < 10
  · rw [Go.Lib.nDigits_small h0]; omega
  rw [Go.Lib.nDigits_big h0]
  by_cases h1 : m / 10 < 10
  · rw [Go.Lib.nDigits_small h1]; omega
  rw [Go.Lib.nDigits_big h1]
  by_cases h2 : m / 10 / 10 < 10
  · rw [Go.Lib.nDigits_small h2]; omega
  rw [Go.Lib.nDigits_big h2]
  by_cases h3 : m / 10 / 10 / 10 < 10
  · rw [Go.Lib.nDigits_small h3]; omega
  rw [Go.Lib.nDigits_big h3]
  by_cases h4 : m / 10 / 10 / 10 / 10 < 10
  · rw [Go.Lib.nDigits_small h4]; omega
  rw [Go.Lib.nDigits_big h4]
  by_cases h5 : m / 10 / 10 / 10 / 10 / 10 < 10
  · rw [Go.Lib.nDigits_small h5]; omega
  rw [Go.Lib.nDigits_big h5, Go.Lib.nDigits_small (by omega)]; omega
theorem itoa_pos (v : Int) (h : 0 ≤ v) : Go.Lib.itoa v = Go.Lib.decDigits v.natAbs := by unfold Go.Lib.itoa; rw [if_neg (by omega), show v.toNat = v.natAbs by omega]
theorem itoa_neg' (v : Int) (h : v < 0) : Go.Lib.itoa v = 45 :: Go.Lib.decDigits v.natAbs := by unfold Go.Lib.itoa; rw [if_pos h]
theorem atoi_itoa (v : Int) (h : -1000000 ≤ v ∧ v ≤ 1000000) : Go.Lib.atoiAll (Go.Lib.itoa v) = .ok v := by
  have h7 := nDig7 v.natAbs (by omega)
  have hdl := Go.Lib.decDigits_length v.natAbs
  have hmag : Go.Lib.parseMag (Go.Lib.decDigits v.natAbs) = .ok v.natAbs := by
    unfold Go.Lib.parseMag
    rw [if_neg (dec_ne _)]
    have := parse_dig (Go.Lib.decDigits v.natAbs) 0 (dec_dig _) (by
      rw [hdl]
      have : (10 : Nat) ^ Go.Lib.nDigits v.natAbs ≤ 10 ^ 7 := Nat.pow_le_pow_right (by decide) h7
      omega)
    rw [this, val_dec]
  by_cases hn : v < 0
  · rw [itoa_neg' v hn]
    unfold Go.Lib.atoiAll
    simp only [show (45 : UInt8).toNat = 45 from rfl, or_true, if_true, hmag, not_true, false_and, if_false, true_and]
    rw [if_neg (by omega)]
    exact congrArg _ (by omega)
  · rw [itoa_pos v (by omega)]
    cases hd : Go.Lib.decDigits v.natAbs with
    | nil => exact absurd hd (dec_ne _)
    | cons c r =>
      have hc := dec_dig v.natAbs c (by rw [hd]; exact List.mem_cons_self)
      unfold isDig at hc
      rw [decide_eq_true_eq] at hc
      rw [hd] at hmag
      unfold Go.Lib.atoiAll
      have h45 : ¬ c.toNat = 45 := by omega
      simp only [if_neg (show ¬ (c.toNat = 43 ∨ c.toNat = 45) by omega)]
      rw [hmag]
      simp only [h45, not_false_eq_true, true_and, false_and, if_false]
      rw [if_neg (by omega)]
      exact congrArg Go.Lib.NumEnd.ok (by omega)
/-- What the reference reads of a word. -/
def specEnd (s ds : List UInt8) (x : Int) : Int × Bool := if ds.length < s.length then (-x, decide (Go.Lib.itoa (-x) = s) && isNumB (-x)) else (x, decide (Go.Lib.itoa x = s) && isNumB x)
def restOf (s : List UInt8) : List UInt8 := if s.head? = some 45 then s.tail else s
def specRead (s : List UInt8) : Int × Bool := if 1 ≤ (restOf s).length ∧ (restOf s).length ≤ 7 then (if (restOf s).all isDig = true then specEnd s (restOf s) (valN 0 (restOf s)) else (0, false)) else (0, false)
theorem specRead_itoa (v : Int) (h : isNumB v = true) : specRead (Go.Lib.itoa v) = (v, true) := by
  have hv : -1000000 ≤ v ∧ v ≤ 1000000 := by rw [isNumB_eq, decide_eq_true_eq] at h; exact h
  have h7 := nDig7 v.natAbs (by omega)
  have h1 := Go.Lib.nDigits_pos v.natAbs
  have hdl := Go.Lib.decDigits_length v.natAbs
  have hall : (Go.Lib.decDigits v.natAbs).all isDig = true := List.all_eq_true.2 (dec_dig _)
  by_cases hn : v < 0
  · have hr : restOf (Go.Lib.itoa v) = Go.Lib.decDigits v.natAbs := by rw [itoa_neg' v hn]; rfl
    unfold specRead
    rw [hr, if_pos (by omega), if_pos hall, val_dec]
    unfold specEnd
    rw [if_pos (by rw [itoa_neg' v hn]; simp), show -((v.natAbs : Nat) : Int) = v by omega, h]
    simp
  · have hr : restOf (Go.Lib.itoa v) = Go.Lib.decDigits v.natAbs := by
      rw [itoa_pos v (by omega)]
      unfold restOf
      cases hd : Go.Lib.decDigits v.natAbs with
      | nil => rfl
      | cons c r =>
        have hc := dec_dig v.natAbs c (by rw [hd]; exact List.mem_cons_self)
        rw [if_neg]
        intro e
        simp only [List.head?_cons, Option.some.injEq] at e
        subst e
        exact absurd hc (by decide)
    unfold specRead
    rw [hr, if_pos (by omega), if_pos hall, val_dec]
    unfold specEnd
    rw [if_neg (by rw [itoa_pos v (by omega)]; omega), show ((v.natAbs : Nat) : Int) = v by omega, h]
    simp
theorem specRead_ok {s : List UInt8} (h : (specRead s).2 = true) : Go.Lib.itoa (specRead s).1 = s ∧ isNumB (specRead s).1 = true := by
  have key : ∀ ds x, (specEnd s ds x).2 = true → Go.Lib.itoa (specEnd s ds x).1 = s ∧ isNumB (specEnd s ds x).1 = true := by
    intro ds x hx
    unfold specEnd at hx ⊢
    split at hx
    · rename_i hc
      rw [if_pos hc]
      simp only [Bool.and_eq_true, decide_eq_true_eq] at hx
      exact hx
    · rename_i hc
      rw [if_neg hc]
      simp only [Bool.and_eq_true, decide_eq_true_eq] at hx
      exact hx
  unfold specRead at h ⊢
  split at h
  · rename_i h1
    rw [if_pos h1]
    split at h
    · rename_i h2
      rw [if_pos h2]
      exact key _ _ h
    · cases h
  · cases h
theorem read_eq (S : ByteArray) : ((specRead S.data.toList).2 = (Lay.readN S).2) ∧ ((specRead S.data.toList).2 = true → (specRead S.data.toList).1 = (Lay.readN S).1) := by
  by_cases h : (specRead S.data.toList).2 = true
  · obtain ⟨h1, h2⟩ := specRead_ok h
    have hv : -1000000 ≤ (specRead S.data.toList).1 ∧ (specRead S.data.toList).1 ≤ 1000000 := by rw [isNumB_eq, decide_eq_true_eq] at h2; exact h2
    have ha := atoi_itoa _ hv
    rw [h1] at ha
    have e : Lay.readN S = ((specRead S.data.toList).1, true) := by
      unfold Lay.readN
      rw [ha]
      simp only
      rw [if_pos ⟨h1, hv⟩]
    rw [e]
    exact ⟨h, fun _ => rfl⟩
  · refine ⟨?_, fun q => absurd q h⟩
    rw [Bool.eq_false_iff.2 h]
    cases hr : (Lay.readN S).2 with
    | false => rfl
    | true =>
      exfalso
      unfold Lay.readN at hr
      split at hr
      · rename_i v hv
        split at hr
        · rename_i hc
          have := specRead_itoa v (by rw [isNumB_eq]; exact decide_eq_true hc.2)
          rw [hc.1] at this
          exact h (by rw [this])
        · cases hr
      · cases hr
theorem readN_false {S : ByteArray} (h : (Lay.readN S).2 = false) : (Lay.readN S).1 = 0 := by
  unfold Lay.readN at h ⊢
  split
  · rename_i v hv
    rw [hv] at h
    simp only at h
    split
    · rename_i hc
      rw [if_pos hc] at h
      cases h
    · rfl
  · rfl
theorem readN_true {S : ByteArray} (h : (Lay.readN S).2 = true) : Go.Lib.itoa (Lay.readN S).1 = S.data.toList ∧ isNumB (Lay.readN S).1 = true := by
  unfold Lay.readN at h ⊢
  split
  · rename_i v hv
    rw [hv] at h
    simp only at h
    split
    · rename_i hc
      exact ⟨hc.1, by rw [isNumB_eq]; exact decide_eq_true hc.2⟩
    · rename_i hc
      rw [if_neg hc] at h
      cases h
  · rename_i hx
    split at h
    · rename_i v hv
      exact absurd hv (by first | exact hx v | (intro q; exact hx v q))
    · cases h

theorem spG_mem_len (c : UInt8) : ∀ (l cur : List UInt8), ∀ x ∈ spG c cur l, x.length ≤ cur.length + l.length
  | [], cur, x, hx => by
    rw [spG, List.mem_singleton] at hx
    subst hx
    simp
  | b :: l, cur, x, hx => by
    unfold spG at hx
    split at hx
    · rcases List.mem_cons.1 hx with rfl | hx
      · simp
      · have := spG_mem_len c l [] x hx; simp at *; omega
    · have := spG_mem_len c l (cur ++ [b]) x hx; simp at *; omega
theorem spB_size (S : ByteArray) (c : UInt8) : ∀ w ∈ spB S c, w.size ≤ S.size := by
  intro w hw
  unfold spB at hw
  obtain ⟨l, hl, rfl⟩ := List.mem_map.1 hw
  have := spG_mem_len c S.data.toList [] l hl
  rw [ba_sz]
  simp at this
  exact this
theorem spB_len (S : ByteArray) (c : UInt8) : (spB S c).length ≤ S.size + 1 := by
  unfold spB
  rw [List.length_map]
  have := spG_len c S.data.toList []
  simp at this
  exact this
theorem rdOf_mem {l : List ByteArray} {i : Nat} (h : i < l.length) : rdOf ByteArray.empty l (i : Int) ∈ l := by
  have : rdOf ByteArray.empty l (i : Int) = l[i] := by simp [rdOf, List.getD, h]
  rw [this]; exact List.getElem_mem h
theorem drop_rdOf (l : List ByteArray) (i : Nat) (h : i < l.length) : l.drop i = rdOf ByteArray.empty l (i : Int) :: l.drop (i + 1) := by
  rw [List.drop_eq_getElem_cons h]
  simp [rdOf, List.getD, h]
theorem take_rdOf (l : List ByteArray) (i : Nat) (h : i < l.length) : l.take i ++ [rdOf ByteArray.empty l (i : Int)] = l.take (i + 1) := by
  rw [List.take_add_one]
  simp [rdOf, List.getD, h]

theorem flat44 : ∀ (l : List (List UInt8)), (∀ x ∈ l, x.length ≤ 8) → (Go.Lib.joinTail [44] l).length ≤ 9 * l.length
  | [], _ => by simp [Go.Lib.joinTail]
  | x :: l, h => by
    have h1 := h x List.mem_cons_self
    have h2 := flat44 l (fun y hy => h y (List.mem_cons_of_mem _ hy))
    have e : Go.Lib.joinTail [44] (x :: l) = 44 :: (x ++ Go.Lib.joinTail [44] l) := by simp [Go.Lib.joinTail]
    rw [e]
    simp only [List.length_cons, List.length_append]
    omega
def rowsOf : List ByteArray → List Int → Option (List Int)
  | [], acc => some acc
  | w :: ws, acc => if w.data.toList = [45] then rowsOf ws (acc ++ [-2000000]) else if (Lay.readN w).2 = true then rowsOf ws (acc ++ [(Lay.readN w).1]) else none
def rowFin (o : Option (List Int)) : List Int × Bool := match o with
  | some l => if 64 < l.length then ([], false) else (l, true)
  | none => ([], false)
theorem itoa_len8 (v : Int) (h : isNumB v = true) : (Go.Lib.itoa v).length ≤ 8 := by
  rw [isNumB_eq, decide_eq_true_eq] at h
  have h7 := nDig7 v.natAbs (by omega)
  have hdl := Go.Lib.decDigits_length v.natAbs
  by_cases hn : v < 0
  · rw [itoa_neg' v hn, List.length_cons]; omega
  · rw [itoa_pos v (by omega)]; omega
theorem rowsOf_some : ∀ (ws : List ByteArray) (acc out : List Int), rowsOf ws acc = some out → out.length = acc.length + ws.length ∧ ∀ w ∈ ws, w.data.toList.length ≤ 8
  | [], acc, out, h => by
    unfold rowsOf at h
    obtain rfl := Option.some.inj h
    simp
  | w :: ws, acc, out, h => by
    unfold rowsOf at h
    split at h
    · rename_i h1
      obtain ⟨h2, h3⟩ := rowsOf_some ws _ out h
      refine ⟨by rw [h2]; simp; omega, fun x hx => ?_⟩
      rcases List.mem_cons.1 hx with rfl | hx
      · rw [h1]; simp
      · exact h3 x hx
    · split at h
      · rename_i h1
        obtain ⟨h2, h3⟩ := rowsOf_some ws _ out h
        refine ⟨by rw [h2]; simp; omega, fun x hx => ?_⟩
        rcases List.mem_cons.1 hx with rfl | hx
        · obtain ⟨h4, h5⟩ := readN_true h1
          rw [← h4]; exact itoa_len8 _ h5
        · exact h3 x hx
      · cases h
def specRow (S : ByteArray) : List Int × Bool := if S.data.toList = [40, 41] then ([], true) else if 600 < S.size then ([], false) else rowFin (rowsOf (spB S 44) [])
def implRow (S : ByteArray) : List Int × Bool := if S.data.toList = [40, 41] then ([], true) else rowFin (rowsOf (spB S 44) [])
theorem row_eq (S : ByteArray) : specRow S = implRow S := by
  unfold specRow implRow
  by_cases h0 : S.data.toList = [40, 41]
  · rw [if_pos h0, if_pos h0]
  rw [if_neg h0, if_neg h0]
  by_cases hl : 600 < S.size
  · rw [if_pos hl]
    unfold rowFin
    split
    · rename_i l hs
      by_cases h64 : 64 < l.length
      · rw [if_pos h64]
      · exfalso
        obtain ⟨h1, h2⟩ := rowsOf_some _ _ _ hs
        have hsz : S.data.toList.length = S.size := by rw [Array.length_toList]; rfl
        have hj := spG_join 44 S.data.toList []
        rw [List.nil_append] at hj
        have hlen : (spB S 44).length = (spG 44 [] S.data.toList).length := by unfold spB; rw [List.length_map]
        have hm : ∀ x ∈ spG 44 [] S.data.toList, x.length ≤ 8 := by
          intro x hx
          have := h2 ⟨x.toArray⟩ (by unfold spB; exact List.mem_map.2 ⟨x, hx, rfl⟩)
          simpa using this
        cases hg : spG 44 [] S.data.toList with
        | nil => exact spG_ne 44 _ _ hg
        | cons x r =>
          rw [hg, Go.Lib.join_cons] at hj
          rw [hg] at hm hlen
          have h3 := flat44 r (fun y hy => hm y (List.mem_cons_of_mem _ hy))
          have h4 := hm x List.mem_cons_self
          have h5 := congrArg List.length hj
          rw [List.length_append] at h5
          simp only [List.length_nil, Nat.zero_add] at h1
          simp only [List.length_cons] at hlen
          omega
    · rfl
  · rw [if_neg hl]
theorem toList_eq (S : ByteArray) (l : List UInt8) : (S.toList = l) ↔ S.data.toList = l := by rw [Lib.toList_data]

theorem impl_row_l0 (ws : List ByteArray) (hw : ∀ w ∈ ws, w.size ≤ 1048576) (hl : ws.length ≤ 1048577) : ∀ (d i : Nat) (acc : List Int), i + d = ws.length → acc.length ≤ i → Ev (fun k => impl_ParseRow.l0 k acc ws (ws.length : Int) i) (rowFin (rowsOf (ws.drop i) acc)) := by
  intro d
  induction d with
  | zero =>
    intro i acc h ha
    rw [List.drop_eq_nil_of_le (show ws.length ≤ i by omega)]
    apply Ev.step
    · intro k; rw [impl_ParseRow.l0]
    simp only [if_neg (show ¬ ((i : Int) < ws.length) by omega)]
    unfold rowsOf rowFin
    by_cases h64 : 64 < acc.length
    · simp only [if_pos (show (acc.length : Int) > 64 by omega), if_pos h64]; exact Ev.now _
    · simp only [if_neg (show ¬ (acc.length : Int) > 64 by omega), if_neg h64]; exact Ev.now _
  | succ d ih =>
    intro i acc h ha
    have hm := hw _ (rdOf_mem (l := ws) (i := i) (by omega))
    rw [drop_rdOf ws i (by omega)]
    generalize hwd : rdOf ByteArray.empty ws (i : Int) = w at hm ⊢
    unfold rowsOf
    apply Ev.step
    · intro k; rw [impl_ParseRow.l0]
    simp only [if_pos (show (i : Int) < ws.length by omega), if_pos (show (0 : Int) ≤ i by omega), hwd, impl_readNum.f, if_pos (show w.size ≤ 281474976710656 by omega), Option.bind_some]
    by_cases hd : w.data.toList = [45]
    · simp only [if_pos ((toList_eq w _).2 hd), if_pos hd, if_pos (show acc.length < 17592186044416 by omega), w64 (x := (i : Int) + 1) (by omega)]
      exact ih (i + 1) _ (by omega) (by simp; omega)
    · simp only [if_neg (fun q => hd ((toList_eq w _).1 q)), if_neg hd]
      by_cases hr : (Lay.readN w).2 = true
      · simp only [if_pos hr, if_pos (show acc.length < 17592186044416 by omega), w64 (x := (i : Int) + 1) (by omega)]
        exact ih (i + 1) _ (by omega) (by simp; omega)
      · simp only [if_neg hr]
        exact Ev.now _
theorem ev_impl_ParseRow (S : ByteArray) (hs : S.size ≤ 1048576) : Ev (fun k => impl_ParseRow.f k S) (implRow S) := by
  simp only [impl_ParseRow.f]
  unfold implRow
  by_cases h0 : S.data.toList = [40, 41]
  · simp only [if_pos ((toList_eq S _).2 h0), if_pos h0]; exact Ev.now _
  simp only [if_neg (fun q => h0 ((toList_eq S _).1 q)), if_neg h0, split_spB S 44 (by omega), Option.bind_some]
  have hp := spB_size S 44
  have hq := spB_len S 44
  have := impl_row_l0 (spB S 44) (fun w hw => by have := hp w hw; omega) (by omega) (spB S 44).length 0 [] (by omega) (by simp)
  simpa using this


theorem cmp_int_eq (a b : Int) : cmp_Compare_int.f a b = some (if a < b then -1 else if b < a then 1 else 0) := by
  simp only [cmp_Compare_int.f, cmp_isNaN_int.f, Option.bind_some]
  by_cases h : a < b
  · simp [h]
  · by_cases h2 : b < a <;> simp [h, h2]

theorem ev_Compare_l0 (a b : List Int) (ha : a.length ≤ 1099511627776) (hb : b.length ≤ 1099511627776) : ∀ (d i : Nat), i + d = a.length → i ≤ b.length → Ev (fun k => slices_Compare_int_int.l0 k a b a (a.length : Int) i) (cmpL (a.drop i) (b.drop i)) := by
  intro d
  induction d with
  | zero =>
    intro i h hib
    apply Ev.step
    · intro k; rw [slices_Compare_int_int.l0]
    simp only [if_neg (show ¬ ((i : Int) < a.length) by omega), drop_nil' (show a.length ≤ i by omega)]
    refine Ev.const ?_
    by_cases hb' : i < b.length
    · rw [drop_rd b i hb', if_pos (by omega)]; rfl
    · rw [drop_nil' (show b.length ≤ i by omega), if_neg (by omega)]; rfl
  | succ d ih =>
    intro i h hib
    rw [drop_rd a i (by omega)]
    apply Ev.step
    · intro k; rw [slices_Compare_int_int.l0]
    simp only [if_pos (show (i : Int) < a.length by omega), if_pos (show (0 : Int) ≤ i by omega)]
    by_cases hb' : i < b.length
    · have ih' := ih (i + 1) (by omega) (by omega)
      rw [drop_rd b i hb']
      simp only [if_neg (show ¬ (i : Int) ≥ b.length by omega), if_pos (show (i : Int) < b.length by omega), cmp_int_eq, Option.bind_some, w64 (x := (i : Int) + 1) (by omega), cmpL]
      by_cases h1 : rd a i < rd b i
      · simp only [if_pos h1]
        exact Ev.const (by simp)
      · by_cases h2 : rd b i < rd a i
        · simp only [if_neg h1, if_pos h2]
          exact Ev.const (by simp)
        · simp only [if_neg h1, if_neg h2, if_true]
          simpa using ih'
    · rw [drop_nil' (show b.length ≤ i by omega)]
      simp only [if_pos (show (i : Int) ≥ b.length by omega), cmpL]
      exact Ev.now _
theorem ev_Compare (a b : List Int) (ha : a.length ≤ 1099511627776) (hb : b.length ≤ 1099511627776) : Ev (fun k => slices_Compare_int_int.f k a b) (cmpL a b) := by
  simpa [slices_Compare_int_int.f] using ev_Compare_l0 a b ha hb a.length 0 (by omega) (by omega)

theorem ev_impl_RowLess (a b : List Int) (ha : a.length ≤ 1099511627776) (hb : b.length ≤ 1099511627776) : Ev (fun k => impl_RowLess.f k a b) (decide (cmpL a b < 0)) := by
  simp only [impl_RowLess.f]
  refine Ev.bind (ev_Compare a b ha hb) ?_
  exact Ev.now _

def valB (v : Int) : List UInt8 := if v = -2000000 then [45] else Go.Lib.itoa v
def rowB (l : List Int) : List UInt8 := if l = [] then [40, 41] else Go.Lib.join (l.map valB) [44]
theorem valB_len (v : Int) (h : -9223372036854775808 ≤ v ∧ v ≤ 9223372036854775807) : (valB v).length ≤ 21 := by
  unfold valB
  split
  · simp
  · exact Go.Lib.itoa_length_le v h.1 h.2
theorem joinTail_len : ∀ (l : List Int), (∀ x ∈ l, -9223372036854775808 ≤ x ∧ x ≤ 9223372036854775807) → (Go.Lib.joinTail [44] (l.map valB)).length ≤ 22 * l.length
  | [], _ => by simp [Go.Lib.joinTail]
  | x :: l, h => by
    have h1 := valB_len x (h x List.mem_cons_self)
    have h2 := joinTail_len l (fun y hy => h y (List.mem_cons_of_mem _ hy))
    simp only [Go.Lib.joinTail, List.map_cons, List.flatten_cons, List.length_append, List.length_cons, List.length_nil] at *
    omega
theorem joinTail_cons (y : List UInt8) (r : List (List UInt8)) : Go.Lib.joinTail [44] (y :: r) = 44 :: (y ++ Go.Lib.joinTail [44] r) := by simp [Go.Lib.joinTail]
theorem rowB_len (l : List Int) (h : ∀ x ∈ l, -9223372036854775808 ≤ x ∧ x ≤ 9223372036854775807) : (rowB l).length ≤ 22 * l.length + 2 := by
  unfold rowB
  cases l with
  | nil => simp
  | cons x r =>
    rw [if_neg (by simp), List.map_cons, Go.Lib.join_cons, List.length_append]
    have h1 := valB_len x (h x List.mem_cons_self)
    have h2 := joinTail_len r (fun y hy => h y (List.mem_cons_of_mem _ hy))
    simp only [List.length_cons]
    omega

def vB (v : Int) : ByteArray := ⟨(valB v).toArray⟩
theorem join_vB (l : List Int) : Lay.joinS (l.map vB) (⟨#[44]⟩ : ByteArray) = ⟨(Go.Lib.join (l.map valB) [44]).toArray⟩ := by
  unfold Lay.joinS
  rw [List.map_map]
  have : ((fun x : ByteArray => x.data.toList) ∘ vB) = valB := by funext v; simp [vB]
  rw [this]
theorem impl_rowText_l0 (l : List Int) (hl : l.length ≤ 1048576) (h0 : l ≠ []) (hr : ∀ x ∈ l, -9223372036854775808 ≤ x ∧ x ≤ 9223372036854775807) : ∀ (d i : Nat), i + d = l.length → Ev (fun k => impl_RowText.l0 k ((l.take i).map vB) l (l.length : Int) i) ⟨(rowB l).toArray⟩ := by
  intro d
  induction d with
  | zero =>
    intro i h
    apply Ev.step
    · intro k; rw [impl_RowText.l0]
    have hlen := rowB_len l hr
    unfold rowB at hlen ⊢
    rw [if_neg h0] at hlen ⊢
    simp only [if_neg (show ¬ ((i : Int) < l.length) by omega), List.take_of_length_le (show l.length ≤ i by omega), strings_Join.f, join_vB, ba_sz, List.length_map]
    rw [if_pos ⟨by omega, by omega⟩]
    exact Ev.now _
  | succ d ih =>
    intro i h
    have hv := hr _ (rd_mem (xs := l) (i := (i : Int)) (by omega) (by omega))
    have ih' := ih (i + 1) (by omega)
    rw [← take_rd l i (by omega), List.map_append, List.map_cons, List.map_nil] at ih'
    apply Ev.step
    · intro k; rw [impl_RowText.l0]
    simp only [if_pos (show (i : Int) < l.length by omega), if_pos (show (0 : Int) ≤ i by omega), if_pos (show ((l.take i).map vB).length < 8796093022208 by rw [List.length_map, List.length_take]; omega), w64 (x := (i : Int) + 1) (by omega)]
    by_cases hc : rd l i = -2000000
    · simp only [if_pos hc]
      have e4 : vB (rd l i) = ⟨#[45]⟩ := by unfold vB valB; rw [if_pos hc]
      rw [e4] at ih'
      exact ih'
    · simp only [if_neg hc, impl_number.f, if_pos hv, Option.bind_some]
      have e4 : vB (rd l i) = ⟨(Go.Lib.itoa (rd l i)).toArray⟩ := by unfold vB valB; rw [if_neg hc]
      rw [e4] at ih'
      exact ih'
theorem ev_impl_RowText (l : List Int) (hl : l.length ≤ 1048576) (hr : ∀ x ∈ l, -9223372036854775808 ≤ x ∧ x ≤ 9223372036854775807) : Ev (fun k => impl_RowText.f k l) ⟨(rowB l).toArray⟩ := by
  simp only [impl_RowText.f]
  by_cases h0 : l = []
  · subst h0
    simp only [List.length_nil, Int.natCast_zero, if_true]
    exact Ev.now _
  · have hp : 0 < l.length := List.length_pos_iff.2 h0
    simp only [if_neg (show ¬ (l.length : Int) = 0 by omega)]
    exact impl_rowText_l0 l hl h0 hr l.length 0 (by omega)

theorem ev_slices_EqualFunc_int_int_int_int_l0 (a b : List (List Int)) (hl : a.length = b.length) (ha : a.length ≤ 1099511627776) (hs : ∀ x ∈ a, x.length ≤ 1099511627776) : ∀ (d i : Nat), i + d = a.length → Ev (fun k => slices_EqualFunc_int_int_int_int.l0 k b a (a.length : Int) i) (decide (a.drop i = b.drop i)) := by
  intro d
  induction d with
  | zero =>
    intro i h
    apply Ev.step
    · intro k; rw [slices_EqualFunc_int_int_int_int.l0]
    simp only [if_neg (show ¬ ((i : Int) < a.length) by omega), drop_nil' (show a.length ≤ i by omega), drop_nil' (show b.length ≤ i by omega)]
    exact Ev.const (by simp)
  | succ d ih =>
    intro i h
    have ih' := ih (i + 1) (by omega)
    have hm := hs _ (getD_mem (z := []) (show i < a.length by omega))
    rw [drop_getD a [] i (by omega), drop_getD b [] i (by omega)]
    apply Ev.step
    · intro k; rw [slices_EqualFunc_int_int_int_int.l0]
    simp only [if_pos (show (i : Int) < a.length by omega), if_pos (show (i : Int) < b.length by omega), if_pos (show (0 : Int) ≤ i by omega), w64 (x := (i : Int) + 1) (by omega), rd_L2, Int.toNat_natCast]
    refine Ev.bind (ev_slices_Equal_int_int (a.getD i []) (b.getD i []) hm) ?_
    generalize a.getD i [] = u at hm ⊢
    generalize b.getD i [] = v
    by_cases he : u = v
    · simp only [decide_eq_true he, if_true, List.cons.injEq]
      simpa [he] using ih'
    · simp only [decide_eq_false he, if_neg Bool.false_ne_true, List.cons.injEq]
      exact Ev.const (by simp [he])
theorem ev_slices_EqualFunc_int_int_int_int (a b : List (List Int)) (ha : a.length ≤ 1099511627776) (hs : ∀ x ∈ a, x.length ≤ 1099511627776) : Ev (fun k => slices_EqualFunc_int_int_int_int.f k a b) (decide (a = b)) := by
  simp only [slices_EqualFunc_int_int_int_int.f]
  by_cases hl : a.length = b.length
  · simp only [if_pos (show (a.length : Int) = b.length by omega)]
    simpa using ev_slices_EqualFunc_int_int_int_int_l0 a b hl ha hs a.length 0 (by omega)
  · simp only [if_neg (show ¬ (a.length : Int) = b.length by omega)]
    exact Ev.const (congrArg some (decide_eq_false (fun h => hl (by rw [h]))).symm)

theorem ev_impl_SameRows (a b : List (List Int)) (ha : a.length ≤ 1099511627776) (hs : ∀ x ∈ a, x.length ≤ 1099511627776) : Ev (fun k => impl_SameRows.f k a b) (decide (a = b)) := by
  simp only [impl_SameRows.f]
  refine Ev.bind (ev_slices_EqualFunc_int_int_int_int a b ha hs) ?_
  exact Ev.now _

theorem clone_int (l : List Int) (hl : l.length ≤ 1048576) : slices_Clone_int_int.f l = some l := by
  simp only [slices_Clone_int_int.f, Option.bind_some, List.length_nil, List.nil_append]
  rw [if_pos (by omega)]

theorem ev_impl_ownRows_l0 (a : List (List Int)) (hl : a.length ≤ 1048576) (hr : ∀ x ∈ a, x.length ≤ 1048576) : ∀ (d i : Nat), i + d = a.length → Ev (fun k => impl_ownRows.l0 k (a.take i) a (a.length : Int) i) a := by
  intro d
  induction d with
  | zero =>
    intro i h
    apply Ev.step
    · intro k; rw [impl_ownRows.l0]
    simp only [if_neg (show ¬ ((i : Int) < a.length) by omega)]
    rw [List.take_of_length_le (by omega)]
    exact Ev.now _
  | succ d ih =>
    intro i h
    have ih' := ih (i + 1) (by omega)
    have hm := hr _ (getD_mem (z := []) (show i < a.length by omega))
    have ht : a.take i ++ [a.getD i []] = a.take (i + 1) := by rw [List.take_add_one]; simp [List.getD, show i < a.length by omega]
    apply Ev.step
    · intro k; rw [impl_ownRows.l0]
    simp only [if_pos (show (i : Int) < a.length by omega), if_pos (show (0 : Int) ≤ i by omega), rd_L2, Int.toNat_natCast, clone_int (a.getD i []) hm, Option.bind_some, if_pos (show (a.take i).length < 5864062014805 by rw [List.length_take]; omega), w64 (x := (i : Int) + 1) (by omega), ht]
    exact ih'
theorem ev_impl_ownRows (a : List (List Int)) (hl : a.length ≤ 1048576) (hr : ∀ x ∈ a, x.length ≤ 1048576) : Ev (fun k => impl_ownRows.f k a) a := by
  simpa [impl_ownRows.f] using ev_impl_ownRows_l0 a hl hr a.length 0 (by omega)

def sorted (l : List (List Int)) : List (List Int) := if 200 < l.length then [] else sortR l
theorem sorted_mem {l : List (List Int)} {x : List Int} (h : x ∈ sorted l) : x ∈ l := by
  unfold sorted at h
  split at h
  · cases h
  · exact (sortR_perm l).mem_iff.1 h
theorem sorted_len (l : List (List Int)) : (sorted l).length ≤ 200 := by
  unfold sorted
  split
  · simp
  · rw [(sortR_perm l).length_eq]; omega

theorem ev_impl_SortRows (a : List (List Int)) (hl : a.length ≤ 1048576) (hr : ∀ x ∈ a, x.length ≤ 1048576) : Ev (fun k => impl_SortRows.f k a) (sorted a) := by
  simp only [impl_SortRows.f, sorted]
  by_cases h : 200 < a.length
  · simp only [if_pos (show (a.length : Int) > 200 by omega), if_pos h]; exact Ev.now _
  · simp only [if_neg (show ¬ (a.length : Int) > 200 by omega), if_neg h]
    refine Ev.bind (ev_impl_ownRows a hl hr) ?_
    have hc : a.length ≤ 1099511627776 ∧ ∀ x ∈ a, x.length ≤ 1099511627776 := ⟨by omega, fun x hx => by have := hr x hx; omega⟩
    simp only [slices_SortFunc_int_int.f, if_pos hc, Option.bind_some]
    exact Ev.now _

def sameBag (a b : List (List Int)) : Bool := decide (a.length ≤ 200 ∧ b.length ≤ 200 ∧ sorted a = sorted b)

theorem ev_impl_SameBag (a b : List (List Int)) (hl : a.length ≤ 1048576) (hr : ∀ x ∈ a, x.length ≤ 1048576) (hl2 : b.length ≤ 1048576) (hr2 : ∀ x ∈ b, x.length ≤ 1048576) : Ev (fun k => impl_SameBag.f k a b) (sameBag a b) := by
  simp only [impl_SameBag.f, sameBag]
  by_cases h : a.length ≤ 200
  · simp only [if_pos (show (a.length : Int) ≤ 200 by omega)]
    by_cases h2 : b.length ≤ 200
    · simp only [if_pos (show (b.length : Int) ≤ 200 by omega)]
      refine Ev.bind (ev_impl_SortRows a hl hr) ?_
      refine Ev.bind (ev_impl_SortRows b hl2 hr2) ?_
      refine Ev.bind (ev_impl_SameRows (sorted a) (sorted b) (by have := sorted_len a; omega) (fun x hx => by have := hr x (sorted_mem hx); omega)) ?_
      exact Ev.const (by simp [h, h2])
    · simp only [if_neg (show ¬ (b.length : Int) ≤ 200 by omega)]
      exact Ev.const (by simp [h2])
  · simp only [if_neg (show ¬ (a.length : Int) ≤ 200 by omega)]
    exact Ev.const (by simp [h])

theorem ev_same_l0 (a b : List Int) (hl : a.length = b.length) (h : a.length ≤ 1099511627776) : ∀ (d i : Nat), i + d = a.length → Ev (fun k => laws_same.l0 k a b i) (decide (a.drop i = b.drop i)) := by
  intro d
  induction d with
  | zero =>
    intro i hd
    apply Ev.step
    · intro k; rw [laws_same.l0]
    simp only [if_neg (show ¬ ((i : Int) < a.length) by omega), drop_nil' (show a.length ≤ i by omega), drop_nil' (show b.length ≤ i by omega)]
    exact Ev.const (by simp)
  | succ d ih =>
    intro i hd
    have ih' := ih (i + 1) (by omega)
    rw [drop_rd a i (by omega), drop_rd b i (by omega)]
    apply Ev.step
    · intro k; rw [laws_same.l0]
    simp only [if_pos (show (i : Int) < a.length by omega), if_pos (show (i : Int) < b.length by omega), if_pos (show (0 : Int) ≤ i by omega), w64 (x := (i : Int) + 1) (by omega)]
    by_cases he : rd a i = rd b i
    · simp only [if_pos he, List.cons.injEq, he, true_and]
      exact ih'
    · simp only [if_neg he, List.cons.injEq]
      exact Ev.const (by simp [he])
theorem ev_same (a b : List Int) (h : a.length ≤ 1099511627776) : Ev (fun k => laws_same.f k a b) (decide (a = b)) := by
  simp only [laws_same.f]
  by_cases hl : a.length = b.length
  · simp only [if_pos (show (a.length : Int) = b.length by omega)]
    simpa using ev_same_l0 a b hl h a.length 0 (by omega)
  · simp only [if_neg (show ¬ (a.length : Int) = b.length by omega)]
    exact Ev.const (congrArg some (decide_eq_false (fun e => hl (by rw [e]))).symm)

theorem ev_spec_RowLess_l0 (a b : List Int) (ha : a.length ≤ 1099511627776) (hb : b.length ≤ 1099511627776) : ∀ (d i : Nat), i + d = a.length → Ev (fun k => spec_RowLess.l0 k a b i) (decide (cmpL (a.drop i) (b.drop i) < 0)) := by
  intro d
  induction d with
  | zero =>
    intro i h
    apply Ev.step
    · intro k; rw [spec_RowLess.l0]
    simp only [if_neg (show ¬ ((i : Int) < a.length) by omega)]
    apply Ev.step
    · intro k; rw [spec_RowLess.j1]
    simp only [if_neg Bool.false_ne_true, drop_nil' (show a.length ≤ i by omega)]
    refine Ev.const (congrArg some ?_)
    by_cases hb' : i < b.length
    · rw [drop_rd b i hb']; simp [cmpL]; omega
    · rw [drop_nil' (show b.length ≤ i by omega)]; simp [cmpL]; omega
  | succ d ih =>
    intro i h
    have ih' := ih (i + 1) (by omega)
    rw [drop_rd a i (by omega)]
    apply Ev.step
    · intro k; rw [spec_RowLess.l0]
    simp only [if_pos (show (i : Int) < a.length by omega)]
    by_cases hb' : i < b.length
    · rw [drop_rd b i hb']
      apply Ev.step
      · intro k; rw [spec_RowLess.j1]
      simp only [decide_eq_true (show (i : Int) < b.length by omega), if_true, if_pos (show (0 : Int) ≤ i by omega), if_pos (show (i : Int) < a.length by omega), if_pos (show (i : Int) < b.length by omega), w64 (x := (i : Int) + 1) (by omega)]
      by_cases he : rd a i = rd b i
      · simp only [if_pos he, cmpL, if_neg (show ¬ rd a i < rd b i by omega), if_neg (show ¬ rd b i < rd a i by omega)]
        simpa using ih'
      · simp only [if_neg he]
        refine Ev.const (congrArg some ?_)
        by_cases hlt : rd a i < rd b i
        · simp [cmpL, hlt]
        · simp [cmpL, hlt, show rd b i < rd a i by omega]
    · rw [drop_nil' (show b.length ≤ i by omega)]
      apply Ev.step
      · intro k; rw [spec_RowLess.j1]
      simp only [decide_eq_false (show ¬ (i : Int) < b.length by omega), if_neg Bool.false_ne_true]
      refine Ev.const (congrArg some ?_)
      simp [cmpL]; omega
theorem ev_spec_RowLess (a b : List Int) (ha : a.length ≤ 1099511627776) (hb : b.length ≤ 1099511627776) : Ev (fun k => spec_RowLess.f k a b) (decide (cmpL a b < 0)) := by
  simpa [spec_RowLess.f] using ev_spec_RowLess_l0 a b ha hb a.length 0 (by omega)

theorem ev_spec_l01Copy_l0 (x0 : List Int) (hl : x0.length ≤ 1048576) : ∀ (d i : Nat), i + d = x0.length → Ev (fun k => spec_l01Copy.l0 k x0 (x0.take i) i) x0 := by
  intro d
  induction d with
  | zero =>
    intro i h
    apply Ev.step
    · intro k; rw [spec_l01Copy.l0]
    simp only [if_neg (show ¬ ((i : Int) < x0.length) by omega)]
    rw [List.take_of_length_le (by omega)]
    exact Ev.now _
  | succ d ih =>
    intro i h
    have ih' := ih (i + 1) (by omega)
    apply Ev.step
    · intro k; rw [spec_l01Copy.l0]
    simp only [if_pos (show (i : Int) < x0.length by omega), if_pos (show (0 : Int) ≤ i by omega), if_pos (show (x0.take i).length < 17592186044416 by simp; omega), w64 (x := (i : Int) + 1) (by omega), take_rd x0 i (by omega)]
    simpa using ih'
theorem ev_spec_l01Copy (l : List Int) (hl : l.length ≤ 1048576) : Ev (fun k => spec_l01Copy.f k l) l := by
  simpa [spec_l01Copy.f] using ev_spec_l01Copy_l0 l hl l.length 0 (by omega)

theorem ev_spec_l04Copy_l0 (a : List (List Int)) (hl : a.length ≤ 1048576) (hr : ∀ x ∈ a, x.length ≤ 1048576) : ∀ (d i : Nat), i + d = a.length → Ev (fun k => spec_l04Copy.l0 k a (a.take i) i) a := by
  intro d
  induction d with
  | zero =>
    intro i h
    apply Ev.step
    · intro k; rw [spec_l04Copy.l0]
    simp only [if_neg (show ¬ ((i : Int) < a.length) by omega)]
    rw [List.take_of_length_le (by omega)]
    exact Ev.now _
  | succ d ih =>
    intro i h
    have ih' := ih (i + 1) (by omega)
    have hm := hr _ (getD_mem (z := []) (show i < a.length by omega))
    have ht : a.take i ++ [a.getD i []] = a.take (i + 1) := by rw [List.take_add_one]; simp [List.getD, show i < a.length by omega]
    apply Ev.step
    · intro k; rw [spec_l04Copy.l0]
    simp only [if_pos (show (i : Int) < a.length by omega), if_pos (show (0 : Int) ≤ i by omega), rd_L2, Int.toNat_natCast]
    refine Ev.bind (ev_spec_l01Copy (a.getD i []) hm) ?_
    simp only [if_pos (show (a.take i).length < 5864062014805 by rw [List.length_take]; omega), w64 (x := (i : Int) + 1) (by omega), ht]
    exact ih'
theorem ev_spec_l04Copy (a : List (List Int)) (hl : a.length ≤ 1048576) (hr : ∀ x ∈ a, x.length ≤ 1048576) : Ev (fun k => spec_l04Copy.f k a) a := by
  simpa [spec_l04Copy.f] using ev_spec_l04Copy_l0 a hl hr a.length 0 (by omega)

theorem ev_sr_true (x0 out : List (List Int)) (i : Nat) (r : List (List Int)) (ho : out.length ≤ 1000) : ∀ (d j : Nat) (next : List (List Int)), j + d = out.length → next.length ≤ j + 1 → i + 1 ≤ 1048576 → Ev (fun k => spec_SortRows.l0 k x0 (next ++ out.drop j) ((i : Int) + 1)) r → Ev (fun k => spec_SortRows.l1 k x0 out i next true j) r := by
  intro d
  induction d with
  | zero =>
    intro j next h hn hi e
    rw [drop_nil' (show out.length ≤ j by omega), List.append_nil] at e
    apply Ev.step
    · intro k; rw [spec_SortRows.l1]
    simp only [if_neg (show ¬ ((j : Int) < out.length) by omega), if_true, w64 (x := (i : Int) + 1) (by omega)]
    exact e
  | succ d ih =>
    intro j next h hn hi e
    rw [drop_getD out [] j (by omega)] at e
    have ih' := ih (j + 1) (next ++ [out.getD j []]) (by omega) (by simp; omega) hi (by simpa using e)
    apply Ev.step
    · intro k; rw [spec_SortRows.l1]
    simp only [if_pos (show (j : Int) < out.length by omega), if_true, if_pos (show (0 : Int) ≤ j by omega), if_pos (show next.length < 5864062014805 by omega), w64 (x := (j : Int) + 1) (by omega), rd_L2, Int.toNat_natCast]
    exact ih'
theorem ev_sr_false (x0 out : List (List Int)) (i : Nat) (r : List (List Int)) (ho : out.length ≤ 1000) (hs : ∀ x ∈ out, x.length ≤ 1048576) (hs0 : ∀ x ∈ x0, x.length ≤ 1048576) (hi : i < x0.length) (hi2 : i + 1 ≤ 1048576) : ∀ (d j : Nat) (next : List (List Int)), j + d = out.length → next.length ≤ j → Ev (fun k => spec_SortRows.l0 k x0 (next ++ insR (x0.getD i []) (out.drop j)) ((i : Int) + 1)) r → Ev (fun k => spec_SortRows.l1 k x0 out i next false j) r := by
  intro d
  induction d with
  | zero =>
    intro j next h hn e
    rw [drop_nil' (show out.length ≤ j by omega), show insR (x0.getD i []) [] = [x0.getD i []] from rfl] at e
    apply Ev.step
    · intro k; rw [spec_SortRows.l1]
    simp only [if_neg (show ¬ ((j : Int) < out.length) by omega), if_neg Bool.false_ne_true, if_pos (show (0 : Int) ≤ i by omega), if_pos (show (i : Int) < x0.length by omega), if_pos (show next.length < 5864062014805 by omega), w64 (x := (i : Int) + 1) (by omega), rd_L2, Int.toNat_natCast]
    exact e
  | succ d ih =>
    intro j next h hn e
    have hy := hs _ (getD_mem (z := []) (show j < out.length by omega))
    have hx := hs0 _ (getD_mem (z := []) hi)
    rw [drop_getD out [] j (by omega), insR] at e
    apply Ev.step
    · intro k; rw [spec_SortRows.l1]
    simp only [if_pos (show (j : Int) < out.length by omega), if_neg Bool.false_ne_true, if_pos (show (0 : Int) ≤ i by omega), if_pos (show (i : Int) < x0.length by omega), if_pos (show (0 : Int) ≤ j by omega), rd_L2, Int.toNat_natCast]
    refine Ev.bind (ev_spec_RowLess (x0.getD i []) (out.getD j []) (by omega) (by omega)) ?_
    have hlt := cmpL_lt (x0.getD i []) (out.getD j [])
    by_cases hc : x0.getD i [] < out.getD j []
    · rw [if_pos hc] at e
      have e2 := ev_sr_true x0 out i r ho d (j + 1) (next ++ [x0.getD i []] ++ [out.getD j []]) (by omega) (by simp; omega) hi2 (by simpa using e)
      simp only [decide_eq_true (hlt.2 hc), if_true, if_pos (show next.length < 5864062014805 by omega), Option.bind_some, if_pos (show (next ++ [x0.getD i []]).length < 5864062014805 by simp; omega), w64 (x := (j : Int) + 1) (by omega)]
      exact e2
    · rw [if_neg hc] at e
      have ih' := ih (j + 1) (next ++ [out.getD j []]) (by omega) (by simp; omega) (by simpa using e)
      simp only [decide_eq_false (fun h => hc (hlt.1 h)), if_neg Bool.false_ne_true, if_pos (show next.length < 5864062014805 by omega), w64 (x := (j : Int) + 1) (by omega)]
      exact ih'
theorem insR_len (x : List Int) (l : List (List Int)) : (insR x l).length = l.length + 1 := by rw [(insR_perm x l).length_eq]; rfl
theorem ev_sr_l0 (x0 : List (List Int)) (hl : x0.length ≤ 200) (hs : ∀ x ∈ x0, x.length ≤ 1048576) : ∀ (d i : Nat) (acc : List (List Int)), i + d = x0.length → acc.length = i → (∀ x ∈ acc, x.length ≤ 1048576) → Ev (fun k => spec_SortRows.l0 k x0 acc i) ((x0.drop i).foldl (fun o x => insR x o) acc) := by
  intro d
  induction d with
  | zero =>
    intro i acc h ha hr
    apply Ev.step
    · intro k; rw [spec_SortRows.l0]
    simp only [if_neg (show ¬ ((i : Int) < x0.length) by omega), drop_nil' (show x0.length ≤ i by omega), List.foldl_nil]
    refine Ev.bind (ev_spec_l04Copy acc (by omega) hr) ?_
    exact Ev.now _
  | succ d ih =>
    intro i acc h ha hr
    have hx := hs _ (getD_mem (z := []) (show i < x0.length by omega))
    have ih' := ih (i + 1) (insR (x0.getD i []) acc) (by omega) (by rw [insR_len]; omega) (fun z hz => by
      rcases List.mem_cons.1 ((insR_perm _ _).mem_iff.1 hz) with rfl | hz
      · exact hx
      · exact hr z hz)
    rw [drop_getD x0 [] i (by omega), List.foldl_cons]
    apply Ev.step
    · intro k; rw [spec_SortRows.l0]
    simp only [if_pos (show (i : Int) < x0.length by omega)]
    exact ev_sr_false x0 acc i _ (by omega) hr hs (by omega) (by omega) acc.length 0 [] (by omega) (by simp) (by simpa using ih')
theorem ev_spec_SortRows (a : List (List Int)) (hl : a.length ≤ 1048576) (hr : ∀ x ∈ a, x.length ≤ 1048576) : Ev (fun k => spec_SortRows.f k a) (sorted a) := by
  simp only [spec_SortRows.f, sorted]
  by_cases h : 200 < a.length
  · simp only [if_pos (show (a.length : Int) > 200 by omega), if_pos h]; exact Ev.now _
  · simp only [if_neg (show ¬ (a.length : Int) > 200 by omega), if_neg h]
    have := ev_sr_l0 a (by omega) hr a.length 0 [] (by omega) rfl (by simp)
    rw [List.drop_zero, ins_eq] at this
    exact this

-- the draws: what a cursor over the code's bytes gives; each always answers, within its bounds
theorem and255 (x : Int) : 0 ≤ Go.bits .and .i64 x 255 ∧ Go.bits .and .i64 x 255 ≤ 255 := by
  have h : (BitVec.ofInt 64 x).toNat &&& (BitVec.ofInt 64 255).toNat ≤ 255 := Nat.le_trans Nat.and_le_right (by decide)
  have e : Go.bits .and .i64 x 255 = IntKind.i64.wrap (((BitVec.ofInt 64 x).toNat &&& (BitVec.ofInt 64 255).toNat : Nat) : Int) := by
    show IntKind.i64.wrap ((((BitVec.ofInt 64 x) &&& (BitVec.ofInt 64 255)).toNat : Nat) : Int) = _
    rw [BitVec.toNat_and]
  rw [e, i64_small (by omega)]
  omega
theorem dr_byte (c : List Int) (i h : Int) (hc : c.length ≤ 1099511627776) (hi : 0 ≤ i) : ∃ v i' h', spec_l01Byte.f c i h = some (v, i', h') ∧ 0 ≤ i' ∧ 0 ≤ v ∧ v ≤ 255 := by
  unfold spec_l01Byte.f
  by_cases h1 : i < (c.length : Int)
  · simp only [if_pos h1, if_pos hi, w64 (x := i + 1) (by omega)]
    exact ⟨_, _, _, rfl, by omega, (and255 _).1, (and255 _).2⟩
  · simp only [if_neg h1]
    exact ⟨_, _, _, rfl, hi, (and255 _).1, (and255 _).2⟩
theorem dr_below (c : List Int) (i h n : Int) (hc : c.length ≤ 1099511627776) (hi : 0 ≤ i) : ∃ v i' h', spec_l01Below.f c i h n = some (v, i', h') ∧ 0 ≤ i' ∧ 0 ≤ v ∧ (0 < n → v < n) ∧ (n ≤ 0 → v = 0) := by
  unfold spec_l01Below.f
  by_cases h1 : n ≤ 0
  · simp only [if_pos h1]
    exact ⟨_, _, _, rfl, hi, by omega, by omega, fun _ => rfl⟩
  simp only [if_neg h1, if_neg (show ¬ n = 0 by omega)]
  obtain ⟨v, i1, h2, e1, p1, q1, r1⟩ := dr_byte c i h hc hi
  by_cases h3 : n ≤ 256
  · simp only [if_pos h3, e1, Option.bind_some]
    refine ⟨_, _, _, rfl, p1, ?_, ?_, ?_⟩
    · rw [tmod_nn q1]; exact Int.emod_nonneg _ (by omega)
    · intro h; rw [tmod_nn q1]; exact Int.emod_lt_of_pos _ h
    · omega
  · obtain ⟨v2, i2, h4, e2, p2, q2, r2⟩ := dr_byte c i1 h2 hc p1
    obtain ⟨v3, i3, h5, e3, p3, q3, r3⟩ := dr_byte c i2 h4 hc p2
    simp only [if_neg h3, e1, e2, e3, Option.bind_some, w64 (x := v * 65536) (by omega), w64 (x := v2 * 256) (by omega), w64 (x := v * 65536 + v2 * 256) (by omega), w64 (x := v * 65536 + v2 * 256 + v3) (by omega)]
    have q4 : 0 ≤ v * 65536 + v2 * 256 + v3 := by omega
    refine ⟨_, _, _, rfl, p3, ?_, ?_, ?_⟩
    · rw [tmod_nn q4]; exact Int.emod_nonneg _ (by omega)
    · intro h; rw [tmod_nn q4]; exact Int.emod_lt_of_pos _ h
    · omega
theorem dr_once (c : List Int) (i h n : Int) (hc : c.length ≤ 1099511627776) (hi : 0 ≤ i) : ∃ b i' h', spec_l01Once.f c i h n = some (b, i', h') ∧ 0 ≤ i' := by
  unfold spec_l01Once.f
  obtain ⟨v, i1, h2, e1, p1, _⟩ := dr_below c i h n hc hi
  simp only [e1, Option.bind_some]
  exact ⟨_, _, _, rfl, p1⟩
theorem dr_size (c : List Int) (m : Int) (hc : c.length ≤ 1099511627776) (hm : 2 ≤ m) : ∃ n, spec_l01Size.f c m = some n ∧ 2 ≤ n ∧ n ≤ m := by
  unfold spec_l01Size.f
  simp only [w64 (x := (c.length : Int) / 16) (by omega), w64 (x := 2 + (c.length : Int) / 16) (by omega)]
  by_cases h : 2 + (c.length : Int) / 16 > m
  · rw [if_pos h]; exact ⟨_, rfl, hm, by omega⟩
  · rw [if_neg h]; exact ⟨_, rfl, by omega, by omega⟩
theorem dr_new_l0 (c : List Int) (hc : c.length ≤ 1099511627776) : ∀ (d : Nat) (i : Nat) (h : Int), i + d = c.length → ∃ h', Ev (fun k => spec_l01New.l0 k c h i) (c, 0, h') := by
  intro d
  induction d with
  | zero =>
    intro i h hd
    refine ⟨h, ?_⟩
    apply Ev.step
    · intro k; rw [spec_l01New.l0]
    simp only [if_neg (show ¬ ((i : Int) < c.length) by omega)]
    exact Ev.now _
  | succ d ih =>
    intro i h hd
    by_cases h1 : (i : Int) < 4000
    · obtain ⟨h', e⟩ := ih (i + 1) (Go.bits .and .i64 (wrap64 ((wrap64 ((wrap64 (h * 149)) + (wrap64 (rd c i)))) + 11)) 1073741823) (by omega)
      refine ⟨h', ?_⟩
      apply Ev.step
      · intro k; rw [spec_l01New.l0]
      simp only [if_pos (show (i : Int) < c.length by omega), if_pos h1, if_pos (show (0 : Int) ≤ i by omega), w64 (x := (i : Int) + 1) (by omega)]
      exact e
    · refine ⟨h, ?_⟩
      apply Ev.step
      · intro k; rw [spec_l01New.l0]
      simp only [if_pos (show (i : Int) < c.length by omega), if_neg h1]
      exact Ev.now _
theorem dr_new (c : List Int) (hc : c.length ≤ 1099511627776) : ∃ h, Ev (fun k => spec_l01New.f k c) (c, 0, h) := by
  obtain ⟨h, e⟩ := dr_new_l0 c hc c.length 0 (wrap64 (844844 + (c.length : Int))) (by omega)
  exact ⟨h, by simpa [spec_l01New.f] using e⟩

def RowOk (w : Int) (r : List Int) : Prop := (r.length : Int) = w ∧ ∀ v ∈ r, isNumB v = true ∨ v = -2000000
theorem dr_rows_l0 (c : List Int) (hc : c.length ≤ 1099511627776) (wd n : Int) (h1 : 1 ≤ wd) (h3 : wd ≤ 64) (hn : n ≤ 201) : ∀ (d : Nat) (acc : List (List Int)) (i : Nat) (p h : Int), (i : Int) + d = n → acc.length = i → (∀ r ∈ acc, RowOk wd r) → 0 ≤ p → ∃ L p' h', Ev (fun k => spec_l04DrawRows.l0 k wd n acc i c p h) (L, p', h') ∧ L.length ≤ 201 ∧ (∀ r ∈ L, RowOk wd r) := by
  intro d
  induction d with
  | zero =>
    intro acc i p h hd ha hR hp
    refine ⟨acc, p, h, ?_, by omega, hR⟩
    apply Ev.step
    · intro k; rw [spec_l04DrawRows.l0]
    simp only [if_neg (show ¬ ((i : Int) < n) by omega)]
    exact Ev.now _
  | succ d ih =>
    intro acc i p h hd ha hR hp
    have inner : ∀ (e : Nat) (row : List Int) (j : Nat) (p h : Int), (j : Int) + e = wd → row.length = j → (∀ v ∈ row, isNumB v = true ∨ v = -2000000) → 0 ≤ p → ∃ L p' h', Ev (fun k => spec_l04DrawRows.l1 k wd n acc i row j c p h) (L, p', h') ∧ L.length ≤ 201 ∧ (∀ r ∈ L, RowOk wd r) := by
      intro e
      induction e with
      | zero =>
        intro row j p h he hj hv hp
        obtain ⟨L, p', h', E, B, G⟩ := ih (acc ++ [row]) (i + 1) p h (by omega) (by simp [ha]) (fun r hr => by
          rcases List.mem_append.1 hr with hr | hr
          · exact hR r hr
          · rw [List.mem_singleton] at hr; subst hr; exact ⟨by omega, hv⟩) hp
        refine ⟨L, p', h', ?_, B, G⟩
        apply Ev.step
        · intro k; rw [spec_l04DrawRows.l1]
        simp only [if_neg (show ¬ ((j : Int) < wd) by omega), if_pos (show acc.length < 5864062014805 by omega), w64 (x := (i : Int) + 1) (by omega)]
        exact E
      | succ e ihe =>
        intro row j p h he hj hv hp
        obtain ⟨v, p1, h1, e1, q1, a1, b1, _⟩ := dr_below c p h 5 hc hp
        have b2 := b1 (by omega)
        obtain ⟨b, p2, h2, e2, q2⟩ := dr_once c p1 h1 8 hc q1
        have step : ∀ x : Int, (isNumB x = true ∨ x = -2000000) → ∀ v ∈ row ++ [x], isNumB v = true ∨ v = -2000000 := fun x hx v hm => by
          rcases List.mem_append.1 hm with hm | hm
          · exact hv v hm
          · rw [List.mem_singleton] at hm; subst hm; exact hx
        by_cases hb : b = true
        · obtain ⟨L, p', h', E, B, G⟩ := ihe (row ++ [-2000000]) (j + 1) p2 h2 (by omega) (by simp [hj]) (step _ (.inr rfl)) q2
          refine ⟨L, p', h', ?_, B, G⟩
          apply Ev.step
          · intro k; rw [spec_l04DrawRows.l1]
          simp only [if_pos (show (j : Int) < wd by omega), e1, e2, hb, Option.bind_some, if_true, if_pos (show row.length < 17592186044416 by omega), w64 (x := (j : Int) + 1) (by omega)]
          exact E
        · obtain ⟨L, p', h', E, B, G⟩ := ihe (row ++ [v]) (j + 1) p2 h2 (by omega) (by simp [hj]) (step _ (.inl (by rw [isNumB_eq]; exact decide_eq_true (by omega)))) q2
          refine ⟨L, p', h', ?_, B, G⟩
          apply Ev.step
          · intro k; rw [spec_l04DrawRows.l1]
          simp only [if_pos (show (j : Int) < wd by omega), e1, e2, if_neg hb, Option.bind_some, if_pos (show row.length < 17592186044416 by omega), w64 (x := (j : Int) + 1) (by omega)]
          exact E
    obtain ⟨L, p', h', E, B, G⟩ := inner wd.toNat [] 0 p h (by omega) rfl (by simp) hp
    refine ⟨L, p', h', ?_, B, G⟩
    apply Ev.step
    · intro k; rw [spec_l04DrawRows.l0]
    simp only [if_pos (show (i : Int) < n by omega)]
    exact E
theorem dr_rows (c : List Int) (hc : c.length ≤ 1099511627776) (p h wd n : Int) (h1 : 1 ≤ wd) (h3 : wd ≤ 64) (h0 : 0 ≤ n) (hn : n ≤ 201) (hp : 0 ≤ p) : ∃ L p' h', Ev (fun k => spec_l04DrawRows.f k c p h wd n) (L, p', h') ∧ L.length ≤ 201 ∧ (∀ r ∈ L, RowOk wd r) := by
  simpa [spec_l04DrawRows.f] using dr_rows_l0 c hc wd n h1 h3 hn n.toNat [] 0 p h (by omega) rfl (by simp) hp
theorem dr_sortRows (c : List Int) (hc : c.length ≤ 1099511627776) : ∃ L wd, Ev (fun k => spec_DrawSortRows.f k c) L ∧ L.length ≤ 201 ∧ 1 ≤ wd ∧ wd ≤ 64 ∧ (∀ r ∈ L, RowOk wd r) := by
  obtain ⟨h, e⟩ := dr_new c hc
  obtain ⟨n, e0, n0, n1⟩ := dr_size c 20 hc (by omega)
  obtain ⟨m, p1, h1, e1, q1, a1, b1, _⟩ := dr_below c 0 h n hc (by omega)
  have b1' := b1 (by omega)
  obtain ⟨b, p2, h2, e2, q2⟩ := dr_once c p1 h1 40 hc q1
  by_cases hb : b = true
  · obtain ⟨v, p3, h3, e3, q3, a3, b3, _⟩ := dr_below c p2 h2 2 hc q2
    have b3' := b3 (by omega)
    obtain ⟨u, p4, h4, e4, q4, a4, b4, _⟩ := dr_below c p3 h3 3 hc q3
    have b4' := b4 (by omega)
    obtain ⟨L, p', h', E, B, G⟩ := dr_rows c hc p4 h4 (1 + u) (200 + v) (by omega) (by omega) (by omega) (by omega) q4
    refine ⟨L, 1 + u, ?_, B, by omega, by omega, G⟩
    simp only [spec_DrawSortRows.f]
    refine Ev.bind e ?_
    simp only [e0, e1, e2, e3, e4, hb, Option.bind_some, if_true, w64 (x := 1 + u) (by omega), w64 (x := 200 + v) (by omega)]
    refine Ev.bind E ?_
    exact Ev.now _
  · obtain ⟨u, p4, h4, e4, q4, a4, b4, _⟩ := dr_below c p2 h2 3 hc q2
    have b4' := b4 (by omega)
    obtain ⟨L, p', h', E, B, G⟩ := dr_rows c hc p4 h4 (1 + u) m (by omega) (by omega) (by omega) (by omega) q4
    refine ⟨L, 1 + u, ?_, B, by omega, by omega, G⟩
    simp only [spec_DrawSortRows.f]
    refine Ev.bind e ?_
    simp only [e0, e1, e2, e4, if_neg hb, Option.bind_some, w64 (x := 1 + u) (by omega)]
    refine Ev.bind E ?_
    exact Ev.now _

theorem valB_mem (v : Int) : ∀ c ∈ valB v, c = 45 ∨ isDig c = true := by
  intro c hc
  unfold valB at hc
  split at hc
  · exact .inl (List.mem_singleton.1 hc)
  · by_cases hn : v < 0
    · rw [itoa_neg' v hn] at hc
      rcases List.mem_cons.1 hc with h | h
      · exact .inl h
      · exact .inr (dec_dig _ c h)
    · rw [itoa_pos v (by omega)] at hc
      exact .inr (dec_dig _ c hc)
theorem valB_no (v : Int) (c : UInt8) (h1 : c ≠ 45) (h2 : isDig c = false) : c ∉ valB v := by
  intro h
  rcases valB_mem v c h with h | h
  · exact h1 h
  · rw [h2] at h; cases h
theorem itoa_dash (v : Int) : Go.Lib.itoa v ≠ [45] := by
  intro h
  by_cases hn : v < 0
  · rw [itoa_neg' v hn] at h
    exact dec_ne _ (List.cons.inj h).2
  · rw [itoa_pos v (by omega)] at h
    exact absurd (dec_dig v.natAbs 45 (by rw [h]; exact List.mem_cons_self)) (by decide)
theorem spG_row : ∀ (l : List (List UInt8)) (p : List UInt8), (44 : UInt8) ∉ p → (∀ x ∈ l, (44 : UInt8) ∉ x) → spG 44 [] (p ++ Go.Lib.joinTail [44] l) = p :: l
  | [], p, hp, _ => by
    rw [show Go.Lib.joinTail [44] [] = [] by simp [Go.Lib.joinTail], List.append_nil, spG_one 44 p hp]
  | y :: l, p, hp, hl => by
    rw [joinTail_cons, spG_two 44 p _ hp, spG_row l y (hl y List.mem_cons_self) (fun x hx => hl x (List.mem_cons_of_mem _ hx))]
theorem rowsOf_vals : ∀ (r acc : List Int), (∀ x ∈ r, isNumB x = true ∨ x = -2000000) → rowsOf ((r.map valB).map fun l => (⟨l.toArray⟩ : ByteArray)) acc = some (acc ++ r)
  | [], acc, _ => by simp [rowsOf]
  | x :: r, acc, h => by
    have ih := fun a => rowsOf_vals r a (fun y hy => h y (List.mem_cons_of_mem _ hy))
    have hx := h x List.mem_cons_self
    rw [List.map_cons, List.map_cons, rowsOf]
    by_cases h2 : x = -2000000
    · subst h2
      rw [if_pos (show (⟨(valB (-2000000)).toArray⟩ : ByteArray).data.toList = [45] by simp [valB]), ih]
      simp
    · have hn : isNumB x = true := hx.resolve_right h2
      have hv : valB x = Go.Lib.itoa x := by unfold valB; rw [if_neg h2]
      have hb : -1000000 ≤ x ∧ x ≤ 1000000 := by rw [isNumB_eq, decide_eq_true_eq] at hn; exact hn
      have hd : (⟨(Go.Lib.itoa x).toArray⟩ : ByteArray).data.toList = Go.Lib.itoa x := by simp
      have hr : Lay.readN (⟨(Go.Lib.itoa x).toArray⟩ : ByteArray) = (x, true) := by
        unfold Lay.readN
        rw [hd, atoi_itoa x hb]
        simp only
        rw [if_pos ⟨trivial, hb⟩]
      rw [hv, if_neg (by rw [hd]; exact itoa_dash x), hr, if_pos rfl, ih]
      simp
theorem implRow_row (r : List Int) (h0 : r ≠ []) (h64 : r.length ≤ 64) (hv : ∀ x ∈ r, isNumB x = true ∨ x = -2000000) : implRow ⟨(rowB r).toArray⟩ = (r, true) := by
  have hd : (⟨(rowB r).toArray⟩ : ByteArray).data.toList = rowB r := by simp
  have hs : spG 44 [] (rowB r) = r.map valB := by
    unfold rowB
    rw [if_neg h0]
    cases r with
    | nil => exact absurd rfl h0
    | cons x l =>
      rw [List.map_cons, Go.Lib.join_cons]
      exact spG_row (l.map valB) (valB x) (valB_no x 44 (by decide) (by decide)) (fun y hy => by
        obtain ⟨z, _, rfl⟩ := List.mem_map.1 hy
        exact valB_no z 44 (by decide) (by decide))
  have h40 : rowB r ≠ [40, 41] := by
    intro h
    rw [h] at hs
    have : ([40, 41] : List UInt8) ∈ r.map valB := by rw [← hs]; decide
    obtain ⟨z, _, hz⟩ := List.mem_map.1 this
    exact valB_no z 40 (by decide) (by decide) (by rw [hz]; exact List.mem_cons_self)
  unfold implRow spB
  rw [hd, if_neg h40, hs, rowsOf_vals r [] hv, List.nil_append, rowFin, if_neg (by omega)]

theorem countL_perm (r : List Int) {l m : List (List Int)} (h : l.Perm m) : countL r l = countL r m := by
  induction h with
  | nil => rfl
  | cons x _ ih => simp only [countL, ih]
  | swap x y l => simp only [countL, Int.add_left_comm]
  | trans _ _ h1 h2 => exact h1.trans h2
theorem colOf_all : ∀ (l : List (List Int)), (∀ r ∈ l, 0 < r.length) → (colFrom 0 l).length = l.length
  | [], _ => by simp [colFrom]
  | x :: l, h => by
    have h1 := h x List.mem_cons_self
    rw [colFrom, if_pos (by omega), List.length_cons, List.length_cons, colOf_all l (fun y hy => h y (List.mem_cons_of_mem _ hy))]
theorem rows_l0 (R : List (List Int)) (hl : R.length ≤ 200) (hR : ∀ r ∈ R, 1 ≤ r.length ∧ r.length ≤ 64 ∧ ∀ v ∈ r, isNumB v = true ∨ v = -2000000) : ∀ (d i : Nat), i + d = R.length → Ev (fun k => laws_FnRows.l0 k R (sorted R) i) true := by
  have hso : sorted R = sortR R := by unfold sorted; rw [if_neg (by omega)]
  have hsl : (sorted R).length = R.length := by rw [hso]; exact (sortR_perm R).length_eq
  have hss : sorted (sorted R) = sorted R := by
    have h1 : sorted (sorted R) = sortR (sorted R) := by unfold sorted; rw [if_neg (show ¬ 200 < R.length by omega), if_neg (by rw [(sortR_perm R).length_eq]; omega)]
    rw [h1, hso]
    exact (sortR_unique (List.Perm.refl _) (sortR_sorted R)).symm
  have hsm : ∀ x ∈ sorted R, x.length ≤ 64 := fun x hx => (hR x (sorted_mem hx)).2.1
  intro d
  induction d with
  | zero =>
    intro i h
    apply Ev.step
    · intro k; rw [laws_FnRows.l0]
    simp only [if_neg (show ¬ ((i : Int) < R.length) by omega)]
    refine Ev.bind (ev_impl_ColumnOf R 0 (by omega) (fun r hr => by have := hR r hr; omega)) ?_
    have hc : (colOf 0 R).length = R.length := by
      unfold colOf
      rw [if_neg (by omega)]
      exact colOf_all R (fun r hr => by have := hR r hr; omega)
    simp only [if_pos (show ((colOf 0 R).length : Int) = R.length by omega)]
    refine Ev.bind (ev_impl_SameBag R (sorted R) (by omega) (fun r hr => by have := hR r hr; omega) (by omega) (fun r hr => by have := hsm r hr; omega)) ?_
    exact Ev.const (by simp [sameBag, hss, hsl, hl])
  | succ d ih =>
    intro i h
    have ih' := ih (i + 1) (by omega)
    have hm : R.getD i [] ∈ R := getD_mem (z := []) (show i < R.length by omega)
    obtain ⟨g1, g2, g3⟩ := hR _ hm
    have hgr : ∀ x ∈ R.getD i [], -9223372036854775808 ≤ x ∧ x ≤ 9223372036854775807 := fun x hx => by
      rcases g3 x hx with h | h
      · rw [isNumB_eq, decide_eq_true_eq] at h; omega
      · omega
    have hrl := rowB_len (R.getD i []) hgr
    apply Ev.step
    · intro k; rw [laws_FnRows.l0]
    simp only [if_pos (show (i : Int) < R.length by omega), if_pos (show (0 : Int) ≤ i by omega), rd_L2, Int.toNat_natCast]
    generalize hg : R.getD i [] = g at g1 g2 g3 hgr hrl ⊢
    refine Ev.bind (ev_impl_RowText g (by omega) hgr) ?_
    refine Ev.bind (ev_impl_ParseRow ⟨(rowB g).toArray⟩ (by rw [ba_sz]; omega)) ?_
    rw [implRow_row g (fun e => by subst e; simp at g1) g2 g3]
    simp only [if_true]
    refine Ev.bind (ev_same g g (by omega)) ?_
    simp only [decide_true, if_true]
    refine Ev.bind (ev_impl_CountSame R g (by omega) (by omega) (fun x hx => by have := hR x hx; omega)) ?_
    refine Ev.bind (ev_impl_CountSame (sorted R) g (by omega) (by omega) (fun x hx => by have := hsm x hx; omega)) ?_
    have hcp : countL g R = countL g (sorted R) := by rw [hso]; exact (countL_perm g (sortR_perm R)).symm
    simp only [if_pos hcp, w64 (x := (i : Int) + 1) (by omega)]
    by_cases h0 : 0 < i
    · have hpw := List.pairwise_iff_getElem.1 (sortR_sorted R) (i - 1) i (by rw [← hso]; omega) (by rw [← hso]; omega) (by omega)
      have hle : (sorted R).getD (i - 1) [] ≤ (sorted R).getD i [] := by
        rw [hso, List.getD_eq_getElem?_getD, List.getD_eq_getElem?_getD, List.getElem?_eq_getElem (by rw [← hso]; omega), List.getElem?_eq_getElem (by rw [← hso]; omega)]
        exact hpw
      have m1 := hsm _ (getD_mem (z := []) (show i < (sorted R).length by omega))
      have m2 := hsm _ (getD_mem (z := []) (show i - 1 < (sorted R).length by omega))
      have hnl := (cmpL_le ((sorted R).getD (i - 1) []) ((sorted R).getD i [])).2 hle
      simp only [if_pos (show (i : Int) > 0 by omega), if_pos (show (i : Int) < (sorted R).length by omega), w64 (x := (i : Int) - 1) (by omega), if_pos (show (0 : Int) ≤ (i : Int) - 1 by omega), if_pos (show (i : Int) - 1 < (sorted R).length by omega), show ((i : Int) - 1).toNat = i - 1 by omega]
      refine Ev.bind (ev_impl_RowLess ((sorted R).getD i []) ((sorted R).getD (i - 1) []) (by omega) (by omega)) ?_
      simp only [decide_eq_false hnl, if_neg Bool.false_ne_true]
      simpa using ih'
    · simp only [if_neg (show ¬ (i : Int) > 0 by omega)]
      simpa using ih'
theorem holds : ∀ (l0 : List (Int)), (l0.length ≤ 9223372036854775807 ∧ ∀ yl0 ∈ l0, (Lit.int .u8 yl0).wf = true) → ∃ k, laws_FnRows.f k l0 = some true := by
  intro l hl
  apply Ev.ex
  simp only [laws_FnRows.f, laws_big.f, Option.bind_some]
  by_cases hbig : (l.length : Int) > 1048576
  · simp only [decide_eq_true hbig, if_true]; exact Ev.now _
  simp only [decide_eq_false hbig, if_neg Bool.false_ne_true]
  obtain ⟨R, wd, e1, n1, w1, w2, hR⟩ := dr_sortRows l (by omega)
  have hR' : ∀ r ∈ R, 1 ≤ r.length ∧ r.length ≤ 64 ∧ ∀ v ∈ r, isNumB v = true ∨ v = -2000000 := fun r hr => by
    obtain ⟨a, b⟩ := hR r hr
    exact ⟨by omega, by omega, b⟩
  have hR2 : ∀ r ∈ R, r.length ≤ 1048576 := fun r hr => by have := hR' r hr; omega
  refine Ev.bind e1 ?_
  refine Ev.bind (ev_impl_SortRows R (by omega) hR2) ?_
  refine Ev.bind (ev_spec_SortRows R (by omega) hR2) ?_
  refine Ev.bind (ev_impl_SameRows (sorted R) (sorted R) (by have := sorted_len R; omega) (fun x hx => by have := hR2 x (sorted_mem hx); omega)) ?_
  simp only [decide_true, if_true]
  by_cases h200 : 200 < R.length
  · have : sorted R = [] := by unfold sorted; rw [if_pos h200]
    simp only [if_pos (show (R.length : Int) > 200 by omega), this, List.length_nil]
    exact Ev.const (by simp)
  · simp only [if_neg (show ¬ (R.length : Int) > 200 by omega)]
    exact rows_l0 R (by omega) hR' R.length 0 (by omega)

end EFnRows
open Go.RowKit Go.Proofs.YtbdfidnldaghbaaGreatDoorW.PrintWords Go.Proofs.YtbdfidnldaghbaaGreatDoorW.PrintLast Go.Proofs.YtbdfidnldaghbaaGreatDoorW.PrintMore Go.Proofs.YtbdfidnldaghbaaGreatDoor.Lib Go.Proofs.YtbdfidnldaghbaaGreatDoor.Q
theorem FnRows : ∀ (l0 : List (Int)), (l0.length ≤ 9223372036854775807 ∧ ∀ yl0 ∈ l0, (Lit.int .u8 yl0).wf = true) → ∃ k, laws_FnRows.f k l0 = some true := EFnRows.holds
end Go.Proofs.YtbdfidnldaghbaaGreatDoor.Pure
