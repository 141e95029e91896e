/- Of every text: the program's ParseRow gives what the reference's ParseRow gives, in new memory of its own. -/
import Derived.Test.YtbdfidnldaghbaaDoorQmFnExactParseRow
import Derived.Test.YtbdfidnldaghbaaDoorShapes
import Derived.Test.YtbdfidnldaghbaaDoorLib
set_option linter.unusedVariables false
set_option linter.unusedSimpArgs false
namespace Go.Proofs.YtbdfidnldaghbaaDoor.Pure
namespace EFnExactParseRow
open Go.RowKit Go.Proofs.YtbdfidnldaghbaaDoorW.PrintWords Go.Proofs.YtbdfidnldaghbaaDoorW.PrintLast Go.Proofs.YtbdfidnldaghbaaDoorW.PrintMore Go.Proofs.YtbdfidnldaghbaaDoor.Lib Go.Proofs.YtbdfidnldaghbaaDoor.Q

-- a text parted at one byte
def spG (c : UInt8) (cur : List UInt8) : List UInt8 → List (List UInt8)
  | [] => [cur]
  | b :: l => if b = c then cur :: spG c [] l else spG c (cur ++ [b]) l
theorem idx_at (c : UInt8) (l : List UInt8) : ∀ cur : List UInt8, c ∉ cur → Go.Lib.indexByte (cur ++ c :: l) c = (cur.length : Int)
  | [], _ => by simp [Go.Lib.indexByte]
  | b :: cur, h => by
    have h1 : b ≠ c := fun e => h (by rw [e]; exact List.mem_cons_self)
    have ih := idx_at c l cur (fun e => h (List.mem_cons_of_mem _ e))
    show Go.Lib.indexByte (b :: (cur ++ c :: l)) c = _
    unfold Go.Lib.indexByte
    rw [if_neg (by simpa using h1), ih, if_neg (by simp)]
    simp
theorem idx_none (c : UInt8) : ∀ cur : List UInt8, c ∉ cur → Go.Lib.indexByte cur c = -1
  | [], _ => rfl
  | b :: cur, h => by
    have h1 : b ≠ c := fun e => h (by rw [e]; exact List.mem_cons_self)
    have ih := idx_none c cur (fun e => h (List.mem_cons_of_mem _ e))
    unfold Go.Lib.indexByte
    rw [if_neg (by simpa using h1), ih]
    simp
theorem splitK_spG (c : UInt8) : ∀ (l cur : List UInt8), c ∉ cur → Go.Lib.splitK [c] 0 (Go.Lib.count (cur ++ l) [c]) (cur ++ l) = spG c cur l := by
  intro l
  induction l with
  | nil =>
    intro cur h
    rw [Go.Lib.count_one, List.append_nil, List.count_eq_zero.2 h]
    rfl
  | cons b l ih =>
    intro cur h
    by_cases e : b = c
    · subst e
      have hi : Go.Lib.index (cur ++ b :: l) [b] = (cur.length : Int) := by rw [Go.Lib.index_one]; exact idx_at b l cur h
      have hc : Go.Lib.count (cur ++ b :: l) [b] = Go.Lib.count l [b] + 1 := by
        rw [Go.Lib.count_one, Go.Lib.count_one, List.count_append, List.count_eq_zero.2 h, List.count_cons_self]; omega
      rw [hc, Go.Lib.splitK, hi, if_neg (by simp), spG, if_pos rfl]
      have := ih [] (by simp)
      rw [List.nil_append] at this
      simp only [Int.toNat_natCast, Nat.add_zero, List.length_cons, List.length_nil, Nat.zero_add]
      rw [List.take_left, show (cur ++ b :: l).drop (cur.length + 1) = l by rw [← List.drop_drop, List.drop_left]; rfl, this]
    · have hq : c ∉ cur ++ [b] := by
        intro q
        rcases List.mem_append.1 q with q | q
        · exact h q
        · exact e (List.mem_singleton.1 q).symm
      rw [spG, if_neg e, ← ih (cur ++ [b]) hq]
      simp
/-- The texts of the parts. -/
def spB (S : ByteArray) (c : UInt8) : List ByteArray := (spG c [] S.data.toList).map fun l => ⟨l.toArray⟩
theorem spG_len (c : UInt8) : ∀ (l cur : List UInt8), (spG c cur l).length ≤ l.length + 1
  | [], cur => by simp [spG]
  | b :: l, cur => by
    unfold spG
    split
    · have := spG_len c l []; simp; omega
    · have := spG_len c l (cur ++ [b]); simp; omega
theorem spG_ne (c : UInt8) : ∀ (l cur : List UInt8), spG c cur l ≠ []
  | [], cur => by simp [spG]
  | b :: l, cur => by
    unfold spG
    split
    · simp
    · exact spG_ne c l (cur ++ [b])
theorem spG_join (c : UInt8) : ∀ (l cur : List UInt8), Go.Lib.join (spG c cur l) [c] = cur ++ l
  | [], cur => by simp [spG, Go.Lib.join_one]
  | b :: l, cur => by
    unfold spG
    split
    · rename_i e
      subst e
      have ih := spG_join b l []
      cases hs : spG b [] l with
      | nil => exact absurd hs (spG_ne b l [])
      | cons p ps =>
        rw [hs, Go.Lib.join_cons] at ih
        rw [Go.Lib.join_cons]
        simp only [Go.Lib.joinTail, List.map_cons, List.flatten_cons, List.nil_append] at ih ⊢
        rw [List.append_assoc, ih]
        simp
    · rw [spG_join c l (cur ++ [b])]; simp

def itoaB (n : Int) : ByteArray := ⟨(Go.Lib.itoa n).toArray⟩
theorem ba_app (a b : List UInt8) : (⟨a.toArray⟩ : ByteArray) ++ ⟨b.toArray⟩ = ⟨(a ++ b).toArray⟩ := by
  apply ByteArray.ext
  rw [ByteArray.data_append]
  simp
theorem ba_sz (a : List UInt8) : (⟨a.toArray⟩ : ByteArray).size = a.length := by simp [ByteArray.size]
theorem strOf_one (c : Int) : strOfNums [c] = ⟨[UInt8.ofNat c.toNat].toArray⟩ := by simp [strOfNums]
theorem num_end (out : List UInt8) (neg : Bool) (h : out.length ≤ 1000) : Ev (fun k => spec_l01Num.l0 k 0 ⟨out.toArray⟩ neg) (if neg = true then (⟨(45 :: out).toArray⟩ : ByteArray) else ⟨out.toArray⟩) := by
  apply Ev.step
  · intro k; rw [spec_l01Num.l0]
  simp only [if_true]
  by_cases hn : neg = true
  · simp only [if_pos hn, ba_sz, if_pos (show 1 + out.length ≤ 9223372036854775807 by omega)]
    exact Ev.const (congrArg some (by rw [show (⟨#[45]⟩ : ByteArray) = ⟨[(45 : UInt8)].toArray⟩ from rfl, ba_app]; rfl))
  · simp only [if_neg hn]
    exact Ev.now _
theorem num_step (m : Nat) (x : Int) (out : List UInt8) (neg : Bool) (r : ByteArray) (hm : x.natAbs = m) (h0 : 0 < m) (hx : -9223372036854775808 ≤ x ∧ x ≤ 9223372036854775807) (ho : out.length ≤ 1000)
    (e : Ev (fun k => spec_l01Num.l0 k (Int.tdiv x 10) ⟨(UInt8.ofNat (48 + m % 10) :: out).toArray⟩ neg) r) : Ev (fun k => spec_l01Num.l0 k x ⟨out.toArray⟩ neg) r := by
  have hd : -9223372036854775808 ≤ Int.tdiv x 10 ∧ Int.tdiv x 10 ≤ 9223372036854775807 := by
    rcases Int.natAbs_eq x with h | h
    · rw [h, tdiv_nn (by omega)]; omega
    · rw [h, tdiv_neg' (by omega)]; omega
  have key : ∀ c : Int, c = 48 + (m % 10 : Nat) → strOfNums [c] ++ (⟨out.toArray⟩ : ByteArray) = ⟨(UInt8.ofNat (48 + m % 10) :: out).toArray⟩ := by
    intro c hc
    rw [strOf_one, ba_app, hc, show ((48 : Int) + (m % 10 : Nat)).toNat = 48 + m % 10 by omega]; rfl
  have sz : ∀ c : Int, (strOfNums [c]).size = 1 := fun c => by simp [strOfNums, ByteArray.size]
  have hmod : (Int.tmod x 10 = ((m % 10 : Nat) : Int)) ∨ (Int.tmod x 10 = -((m % 10 : Nat) : Int)) := by
    rcases Int.natAbs_eq x with h | h
    · left; rw [h, tmod_nn (by omega)]; omega
    · right; rw [h, Int.neg_tmod, tmod_nn (by omega)]; omega
  apply Ev.step
  · intro k; rw [spec_l01Num.l0]
  simp only [if_neg (show ¬ x = 0 by omega), Option.bind_some, sz, ba_sz, if_pos (show 1 + out.length ≤ 9223372036854775807 by omega), w64 hd]
  by_cases hlt : Int.tmod x 10 < 0
  · simp only [if_pos hlt]
    have h1 : Int.tmod x 10 = -((m % 10 : Nat) : Int) := by omega
    rw [key ((wrap64 (48 + wrap64 (-(Int.tmod x 10)))) % 256) (by rw [h1, w64 (x := -(-((m % 10 : Nat) : Int))) (by omega), w64 (x := 48 + -(-((m % 10 : Nat) : Int))) (by omega)]; omega)]
    exact e
  · simp only [if_neg hlt]
    have h1 : Int.tmod x 10 = ((m % 10 : Nat) : Int) := by omega
    rw [key ((wrap64 (48 + (Int.tmod x 10))) % 256) (by rw [h1, w64 (by omega)]; omega)]
    exact e
theorem natAbs_tdiv10 (x : Int) : (Int.tdiv x 10).natAbs = x.natAbs / 10 := by
  rcases Int.natAbs_eq x with h | h
  · rw [h, tdiv_nn (by omega)]; omega
  · rw [h, tdiv_neg' (by omega)]; omega
theorem num_all : ∀ (n m : Nat), m ≤ n → ∀ (x : Int) (out : List UInt8) (neg : Bool), x.natAbs = m → 0 < m → (-9223372036854775808 ≤ x ∧ x ≤ 9223372036854775807) → out.length + Go.Lib.nDigits m ≤ 900 →
    Ev (fun k => spec_l01Num.l0 k x ⟨out.toArray⟩ neg) (if neg = true then (⟨(45 :: (Go.Lib.decDigits m ++ out)).toArray⟩ : ByteArray) else ⟨(Go.Lib.decDigits m ++ out).toArray⟩) := by
  intro n
  induction n with
  | zero => intro m h x out neg hm h0; omega
  | succ n ih =>
    intro m h x out neg hm h0 hx ho
    refine num_step m x out neg _ hm h0 hx (by omega) ?_
    have hq := natAbs_tdiv10 x
    rw [hm] at hq
    by_cases hs : m < 10
    · have : Int.tdiv x 10 = 0 := by omega
      rw [this, Go.Lib.decDigits, dif_pos hs]
      have := num_end (UInt8.ofNat (48 + m % 10) :: out) neg (by simp; omega)
      rw [Nat.mod_eq_of_lt hs] at this ⊢
      exact this
    · rw [Go.Lib.decDigits, dif_neg hs]
      rw [Go.Lib.nDigits_big hs] at ho
      have := ih (m / 10) (by omega) (Int.tdiv x 10) (UInt8.ofNat (48 + m % 10) :: out) neg hq (by omega) (by omega) (by simp; omega)
      simpa using this
theorem ev_spec_l01Num (a : Int) (ha : -9223372036854775808 ≤ a ∧ a ≤ 9223372036854775807) : Ev (fun k => spec_l01Num.f k a) (itoaB a) := by
  unfold itoaB Go.Lib.itoa
  simp only [spec_l01Num.f]
  by_cases h0 : a = 0
  · subst h0
    simp only [if_true]
    exact Ev.const (by rw [if_neg (by omega), show (0 : Int).toNat = 0 from rfl, Go.Lib.decDigits, dif_pos (by omega)]; rfl)
  · simp only [if_neg h0]
    have h20 := Go.Lib.nDigits_le20 a.natAbs (by omega)
    have := num_all a.natAbs a.natAbs (Nat.le_refl _) a [] (decide (a < 0)) rfl (by omega) ha (by simp; omega)
    rw [List.append_nil] at this
    by_cases hn : a < 0
    · simp only [decide_eq_true hn, if_true] at this
      rw [if_pos hn, decide_eq_true hn]
      exact this
    · simp only [decide_eq_false hn, if_neg Bool.false_ne_true] at this
      rw [if_neg hn, decide_eq_false hn, show a.toNat = a.natAbs by omega]
      exact this

theorem ba_self (b : ByteArray) : (⟨b.data.toList.toArray⟩ : ByteArray) = b := by cases b; simp

theorem split_spB (S : ByteArray) (c : UInt8) (hs : S.size < 4294967281) : strings_Split.f S (⟨#[c]⟩ : ByteArray) = some (spB S c) := by
  unfold strings_Split.f
  rw [if_pos ⟨hs, (show 1 ≤ (⟨#[c]⟩ : ByteArray).size from Nat.le_refl 1)⟩]
  congr 1
  have h1 := Lib.splitB_data (⟨#[c]⟩ : ByteArray) 0 (Lib.countB S (⟨#[c]⟩ : ByteArray)) S
  have h2 := splitK_spG c S.data.toList [] (by simp)
  rw [List.nil_append] at h2
  have h3 : Lib.countB S (⟨#[c]⟩ : ByteArray) = Lib.count S.data.toList [c] := rfl
  have h4 : (⟨#[c]⟩ : ByteArray).data.toList = [c] := rfl
  rw [h4, h3, h2] at h1
  unfold spB
  rw [← h1, List.map_map, h3]
  have : ((fun l : List UInt8 => (⟨l.toArray⟩ : ByteArray)) ∘ fun x : ByteArray => x.data.toList) = id := by funext x; exact ba_self x
  rw [this, List.map_id]

-- numerals: what is read of them, digit by digit
def isDig (c : UInt8) : Bool := decide (48 ≤ c.toNat ∧ c.toNat ≤ 57)
def valN (a : Nat) (l : List UInt8) : Nat := l.foldl (fun a c => a * 10 + (c.toNat - 48)) a
theorem dec_dig (m : Nat) : ∀ c ∈ Go.Lib.decDigits m, isDig c = true := by
  induction m using Nat.strongRecOn with
  | _ m ih =>
    have hd : ∀ j : Nat, j < 10 → isDig (UInt8.ofNat (48 + j)) = true := by
      intro j hj
      unfold isDig
      rw [decide_eq_true_eq, UInt8.toNat_ofNat']
      omega
    by_cases h : m < 10
    · rw [Go.Lib.decDigits, dif_pos h]
      intro c hc
      rw [List.mem_singleton] at hc
      subst hc
      exact hd m h
    · rw [Go.Lib.decDigits, dif_neg h]
      intro c hc
      rcases List.mem_append.1 hc with hc | hc
      · exact ih (m / 10) (by omega) c hc
      · rw [List.mem_singleton] at hc
        subst hc
        exact hd (m % 10) (by omega)
theorem val_dec (m : Nat) : valN 0 (Go.Lib.decDigits m) = m := by
  induction m using Nat.strongRecOn with
  | _ m ih =>
    by_cases h : m < 10
    · rw [Go.Lib.decDigits, dif_pos h]
      simp only [valN, List.foldl_cons, List.foldl_nil, UInt8.toNat_ofNat']
      omega
    · have := ih (m / 10) (by omega)
      rw [Go.Lib.decDigits, dif_neg h]
      simp only [valN] at this
      simp only [valN, List.foldl_append, List.foldl_cons, List.foldl_nil, this, UInt8.toNat_ofNat']
      omega
theorem valN_lt : ∀ (l : List UInt8) (a : Nat), (∀ c ∈ l, isDig c = true) → valN a l < (a + 1) * 10 ^ l.length
  | [], a, _ => by simp [valN]
  | c :: l, a, h => by
    have hc := h c List.mem_cons_self
    unfold isDig at hc
    rw [decide_eq_true_eq] at hc
    have := valN_lt l (a * 10 + (c.toNat - 48)) (fun x hx => h x (List.mem_cons_of_mem _ hx))
    have e : valN a (c :: l) = valN (a * 10 + (c.toNat - 48)) l := rfl
    rw [e, List.length_cons, Nat.pow_succ]
    refine Nat.lt_of_lt_of_le this ?_
    rw [Nat.mul_comm (10 ^ l.length) 10, ← Nat.mul_assoc]
    exact Nat.mul_le_mul_right _ (by omega)
theorem parse_dig : ∀ (l : List UInt8) (a : Nat), (∀ c ∈ l, isDig c = true) → (a + 1) * 10 ^ l.length ≤ 1000000000000000000 → Go.Lib.parseUint10 a l = .ok (valN a l)
  | [], a, _, _ => rfl
  | c :: l, a, h, hb => by
    have hc := h c List.mem_cons_self
    unfold isDig at hc
    rw [decide_eq_true_eq] at hc
    rw [List.length_cons, Nat.pow_succ, Nat.mul_comm (10 ^ l.length) 10, ← Nat.mul_assoc] at hb
    have hp : 1 ≤ 10 ^ l.length := Nat.one_le_pow _ _ (by decide)
    have hb2 : (a + 1) * 10 ≤ 1000000000000000000 := Nat.le_trans (Nat.le_mul_of_pos_right _ hp) hb
    unfold Go.Lib.parseUint10
    rw [if_pos hc, if_neg (by omega), if_neg (by omega)]
    have e : valN a (c :: l) = valN (a * 10 + (c.toNat - 48)) l := rfl
    rw [e]
    refine parse_dig l _ (fun x hx => h x (List.mem_cons_of_mem _ hx)) ?_
    exact Nat.le_trans (Nat.mul_le_mul_right _ (by omega)) hb
theorem dec_ne (m : Nat) : Go.Lib.decDigits m ≠ [] := by
  intro h
  have := Go.Lib.decDigits_length m
  rw [h] at this
  have := Go.Lib.nDigits_pos m
  simp at *
  omega
theorem nDig7 (m : Nat) (h : m ≤ 1000000) : Go.Lib.nDigits m ≤ 7 := by
  by_cases h0 : m < 10
  · rw [Go.Lib.nDigits_small h0]; omega
  rw [Go.Lib.nDigits_big h0]
  by_cases h1 : m / 10 < 10
  · rw [Go.Lib.nDigits_small h1]; omega
  rw [Go.Lib.nDigits_big h1]
  by_cases h2 : m / 10 / 10 < 10
  · rw [Go.Lib.nDigits_small h2]; omega
  rw [Go.Lib.nDigits_big h2]
  by_cases h3 : m / 10 / 10 / 10 < 10
  · rw [Go.Lib.nDigits_small h3]; omega
  rw [Go.Lib.nDigits_big h3]
  by_cases h4 : m / 10 / 10 / 10 / 10 < 10
  · rw [Go.Lib.nDigits_small h4]; omega
  rw [Go.Lib.nDigits_big h4]
  by_cases h5 : m / 10 / 10 / 10 / 10 / 10 < 10
  · rw [Go.Lib.nDigits_small h5]; omega
  rw [Go.Lib.nDigits_big h5, Go.Lib.nDigits_small (by omega)]; omega
theorem itoa_pos (v : Int) (h : 0 ≤ v) : Go.Lib.itoa v = Go.Lib.decDigits v.natAbs := by unfold Go.Lib.itoa; rw [if_neg (by omega), show v.toNat = v.natAbs by omega]
theorem itoa_neg' (v : Int) (h : v < 0) : Go.Lib.itoa v = 45 :: Go.Lib.decDigits v.natAbs := by unfold Go.Lib.itoa; rw [if_pos h]
theorem atoi_itoa (v : Int) (h : -1000000 ≤ v ∧ v ≤ 1000000) : Go.Lib.atoiAll (Go.Lib.itoa v) = .ok v := by
  have h7 := nDig7 v.natAbs (by omega)
  have hdl := Go.Lib.decDigits_length v.natAbs
  have hmag : Go.Lib.parseMag (Go.Lib.decDigits v.natAbs) = .ok v.natAbs := by
    unfold Go.Lib.parseMag
    rw [if_neg (dec_ne _)]
    have := parse_dig (Go.Lib.decDigits v.natAbs) 0 (dec_dig _) (by
      rw [hdl]
      have : (10 : Nat) ^ Go.Lib.nDigits v.natAbs ≤ 10 ^ 7 := Nat.pow_le_pow_right (by decide) h7
      omega)
    rw [this, val_dec]
  by_cases hn : v < 0
  · rw [itoa_neg' v hn]
    unfold Go.Lib.atoiAll
    simp only [show (45 : UInt8).toNat = 45 from rfl, or_true, if_true, hmag, not_true, false_and, if_false, true_and]
    rw [if_neg (by omega)]
    exact congrArg _ (by omega)
  · rw [itoa_pos v (by omega)]
    cases hd : Go.Lib.decDigits v.natAbs with
    | nil => exact absurd hd (dec_ne _)
    | cons c r =>
      have hc := dec_dig v.natAbs c (by rw [hd]; exact List.mem_cons_self)
      unfold isDig at hc
      rw [decide_eq_true_eq] at hc
      rw [hd] at hmag
      unfold Go.Lib.atoiAll
      have h45 : ¬ c.toNat = 45 := by omega
      simp only [if_neg (show ¬ (c.toNat = 43 ∨ c.toNat = 45) by omega)]
      rw [hmag]
      simp only [h45, not_false_eq_true, true_and, false_and, if_false]
      rw [if_neg (by omega)]
      exact congrArg Go.Lib.NumEnd.ok (by omega)
/-- What the reference reads of a word. -/
def specEnd (s ds : List UInt8) (x : Int) : Int × Bool := if ds.length < s.length then (-x, decide (Go.Lib.itoa (-x) = s) && isNumB (-x)) else (x, decide (Go.Lib.itoa x = s) && isNumB x)
def restOf (s : List UInt8) : List UInt8 := if s.head? = some 45 then s.tail else s
def specRead (s : List UInt8) : Int × Bool := if 1 ≤ (restOf s).length ∧ (restOf s).length ≤ 7 then (if (restOf s).all isDig = true then specEnd s (restOf s) (valN 0 (restOf s)) else (0, false)) else (0, false)
theorem specRead_itoa (v : Int) (h : isNumB v = true) : specRead (Go.Lib.itoa v) = (v, true) := by
  have hv : -1000000 ≤ v ∧ v ≤ 1000000 := by rw [isNumB_eq, decide_eq_true_eq] at h; exact h
  have h7 := nDig7 v.natAbs (by omega)
  have h1 := Go.Lib.nDigits_pos v.natAbs
  have hdl := Go.Lib.decDigits_length v.natAbs
  have hall : (Go.Lib.decDigits v.natAbs).all isDig = true := List.all_eq_true.2 (dec_dig _)
  by_cases hn : v < 0
  · have hr : restOf (Go.Lib.itoa v) = Go.Lib.decDigits v.natAbs := by rw [itoa_neg' v hn]; rfl
    unfold specRead
    rw [hr, if_pos (by omega), if_pos hall, val_dec]
    unfold specEnd
    rw [if_pos (by rw [itoa_neg' v hn]; simp), show -((v.natAbs : Nat) : Int) = v by omega, h]
    simp
  · have hr : restOf (Go.Lib.itoa v) = Go.Lib.decDigits v.natAbs := by
      rw [itoa_pos v (by omega)]
      unfold restOf
      cases hd : Go.Lib.decDigits v.natAbs with
      | nil => rfl
      | cons c r =>
        have hc := dec_dig v.natAbs c (by rw [hd]; exact List.mem_cons_self)
        rw [if_neg]
        intro e
        simp only [List.head?_cons, Option.some.injEq] at e
        subst e
        exact absurd hc (by decide)
    unfold specRead
    rw [hr, if_pos (by omega), if_pos hall, val_dec]
    unfold specEnd
    rw [if_neg (by rw [itoa_pos v (by omega)]; omega), show ((v.natAbs : Nat) : Int) = v by omega, h]
    simp
theorem specRead_ok {s : List UInt8} (h : (specRead s).2 = true) : Go.Lib.itoa (specRead s).1 = s ∧ isNumB (specRead s).1 = true := by
  have key : ∀ ds x, (specEnd s ds x).2 = true → Go.Lib.itoa (specEnd s ds x).1 = s ∧ isNumB (specEnd s ds x).1 = true := by
    intro ds x hx
    unfold specEnd at hx ⊢
    split at hx
    · rename_i hc
      rw [if_pos hc]
      simp only [Bool.and_eq_true, decide_eq_true_eq] at hx
      exact hx
    · rename_i hc
      rw [if_neg hc]
      simp only [Bool.and_eq_true, decide_eq_true_eq] at hx
      exact hx
  unfold specRead at h ⊢
  split at h
  · rename_i h1
    rw [if_pos h1]
    split at h
    · rename_i h2
      rw [if_pos h2]
      exact key _ _ h
    · cases h
  · cases h
theorem read_eq (S : ByteArray) : ((specRead S.data.toList).2 = (Lay.readN S).2) ∧ ((specRead S.data.toList).2 = true → (specRead S.data.toList).1 = (Lay.readN S).1) := by
  by_cases h : (specRead S.data.toList).2 = true
  · obtain ⟨h1, h2⟩ := specRead_ok h
    have hv : -1000000 ≤ (specRead S.data.toList).1 ∧ (specRead S.data.toList).1 ≤ 1000000 := by rw [isNumB_eq, decide_eq_true_eq] at h2; exact h2
    have ha := atoi_itoa _ hv
    rw [h1] at ha
    have e : Lay.readN S = ((specRead S.data.toList).1, true) := by
      unfold Lay.readN
      rw [ha]
      simp only
      rw [if_pos ⟨h1, hv⟩]
    rw [e]
    exact ⟨h, fun _ => rfl⟩
  · refine ⟨?_, fun q => absurd q h⟩
    rw [Bool.eq_false_iff.2 h]
    cases hr : (Lay.readN S).2 with
    | false => rfl
    | true =>
      exfalso
      unfold Lay.readN at hr
      split at hr
      · rename_i v hv
        split at hr
        · rename_i hc
          have := specRead_itoa v (by rw [isNumB_eq]; exact decide_eq_true hc.2)
          rw [hc.1] at this
          exact h (by rw [this])
        · cases hr
      · cases hr
theorem readN_false {S : ByteArray} (h : (Lay.readN S).2 = false) : (Lay.readN S).1 = 0 := by
  unfold Lay.readN at h ⊢
  split
  · rename_i v hv
    rw [hv] at h
    simp only at h
    split
    · rename_i hc
      rw [if_pos hc] at h
      cases h
    · rfl
  · rfl
theorem readN_true {S : ByteArray} (h : (Lay.readN S).2 = true) : Go.Lib.itoa (Lay.readN S).1 = S.data.toList ∧ isNumB (Lay.readN S).1 = true := by
  unfold Lay.readN at h ⊢
  split
  · rename_i v hv
    rw [hv] at h
    simp only at h
    split
    · rename_i hc
      exact ⟨hc.1, by rw [isNumB_eq]; exact decide_eq_true hc.2⟩
    · rename_i hc
      rw [if_neg hc] at h
      cases h
  · rename_i hx
    split at h
    · rename_i v hv
      exact absurd hv (by first | exact hx v | (intro q; exact hx v q))
    · cases h

theorem spec_l01In_eq (a b c : Int) : spec_l01In.f a b c = some (decide (b ≤ a ∧ a ≤ c)) := by
  unfold spec_l01In.f
  by_cases h : b ≤ a
  · rw [if_pos h]; simp [h]
  · rw [if_neg h]; simp [h]

theorem spec_l01Number_eq (a : Int) : spec_l01Number.f a = some (isNumB a) := by
  unfold spec_l01Number.f; rw [spec_l01In_eq]; rfl

theorem bt_ba (l : List UInt8) (i : Nat) (h : i < l.length) : bt (⟨l.toArray⟩ : ByteArray) (i : Int) = ((l[i]).toNat : Int) := by
  have := bt_at (⟨l.toArray⟩ : ByteArray) i (by simpa [ByteArray.size] using h)
  simp only [Int.toNat_natCast] at this
  exact this.symm
theorem itoaB_eq (v : Int) (s : List UInt8) : ((itoaB v).toList = (⟨s.toArray⟩ : ByteArray).toList) ↔ Go.Lib.itoa v = s := by
  rw [Lib.toList_data, Lib.toList_data]
  simp [itoaB]
theorem read_end (s ds : List UInt8) (i : Nat) (x : Int) (hx : -10000000000 ≤ x ∧ x ≤ 10000000000) (hi : ds.length ≤ i) (hd : ds.length ≤ 1099511627776) (hs : s.length ≤ 1099511627776) : Ev (fun k => spec_l01Read.l0 k ⟨s.toArray⟩ ⟨ds.toArray⟩ x i) (specEnd s ds x) := by
  apply Ev.step
  · intro k; rw [spec_l01Read.l0]
  simp only [ba_sz, if_neg (show ¬ ((i : Int) < ds.length) by omega)]
  unfold specEnd
  by_cases h : ds.length < s.length
  · simp only [if_pos (show (ds.length : Int) < s.length by omega), if_pos h, w64 (x := -x) (by omega)]
    refine Ev.bind (ev_spec_l01Num (-x) (by omega)) ?_
    by_cases e : Go.Lib.itoa (-x) = s
    · simp only [if_pos ((itoaB_eq (-x) s).2 e), spec_l01Number_eq, Option.bind_some]
      exact Ev.const (by simp [e])
    · simp only [if_neg (fun q => e ((itoaB_eq (-x) s).1 q))]
      exact Ev.const (by simp [e])
  · simp only [if_neg (show ¬ (ds.length : Int) < s.length by omega), if_neg h]
    refine Ev.bind (ev_spec_l01Num x (by omega)) ?_
    by_cases e : Go.Lib.itoa x = s
    · simp only [if_pos ((itoaB_eq x s).2 e), spec_l01Number_eq, Option.bind_some]
      exact Ev.const (by simp [e])
    · simp only [if_neg (fun q => e ((itoaB_eq x s).1 q))]
      exact Ev.const (by simp [e])
theorem valN_drop (ds : List UInt8) (i a : Nat) (h : i < ds.length) : valN a (ds.drop i) = valN (a * 10 + ((ds[i]).toNat - 48)) (ds.drop (i + 1)) := by
  rw [List.drop_eq_getElem_cons h]; rfl
theorem read_l0 (s ds : List UInt8) (h7 : ds.length ≤ 7) (hs : s.length ≤ 1099511627776) : ∀ (d i a : Nat), i + d = ds.length → a < 10 ^ i → Ev (fun k => spec_l01Read.l0 k ⟨s.toArray⟩ ⟨ds.toArray⟩ (a : Int) i) (if (ds.drop i).all isDig = true then specEnd s ds (valN a (ds.drop i)) else (0, false)) := by
  intro d
  induction d with
  | zero =>
    intro i a h ha
    have hp : (10 : Nat) ^ i ≤ 10 ^ 7 := Nat.pow_le_pow_right (by decide) (by omega)
    rw [List.drop_eq_nil_of_le (by omega)]
    exact read_end s ds i a (by omega) (by omega) (by omega) hs
  | succ d ih =>
    intro i a h ha
    have hp : (10 : Nat) ^ i ≤ 10 ^ 6 := Nat.pow_le_pow_right (by decide) (by omega)
    have hb := (ds[i]'(by omega)).toNat_lt
    rw [List.drop_eq_getElem_cons (show i < ds.length by omega), List.all_cons]
    apply Ev.step
    · intro k; rw [spec_l01Read.l0]
    simp only [ba_sz, if_pos (show (i : Int) < ds.length by omega), if_pos (show (0 : Int) ≤ i by omega), bt_ba ds i (by omega)]
    generalize hcc : (ds[i]'(by omega)) = c at hb ⊢
    by_cases h1 : c.toNat < 48
    · have hn : isDig c = false := by unfold isDig; exact decide_eq_false (by omega)
      simp only [if_pos (show ((c.toNat : Nat) : Int) < 48 by omega), hn, Bool.false_and, if_neg Bool.false_ne_true]
      exact Ev.now _
    · by_cases h2 : 57 < c.toNat
      · have hn : isDig c = false := by unfold isDig; exact decide_eq_false (by omega)
        simp only [if_neg (show ¬ ((c.toNat : Nat) : Int) < 48 by omega), if_pos (show ((c.toNat : Nat) : Int) > 57 by omega), hn, Bool.false_and, if_neg Bool.false_ne_true]
        exact Ev.now _
      · have hn : isDig c = true := by unfold isDig; exact decide_eq_true (by omega)
        have ih' := ih (i + 1) (a * 10 + (c.toNat - 48)) (by omega) (by rw [Nat.pow_succ]; omega)
        simp only [if_neg (show ¬ ((c.toNat : Nat) : Int) < 48 by omega), if_neg (show ¬ ((c.toNat : Nat) : Int) > 57 by omega), hn, Bool.true_and, w64 (x := 10 * (a : Int)) (by omega), w64 (x := ((c.toNat : Nat) : Int)) (by omega), w64 (x := 10 * (a : Int) + ((c.toNat : Nat) : Int)) (by omega), w64 (x := 10 * (a : Int) + ((c.toNat : Nat) : Int) - 48) (by omega), w64 (x := (i : Int) + 1) (by omega)]
        rw [show (10 * (a : Int) + ((c.toNat : Nat) : Int) - 48) = ((a * 10 + (c.toNat - 48) : Nat) : Int) by omega]
        exact ih'
theorem read_j1 (s ds : List UInt8) (hs : s.length ≤ 1099511627776) (hd : ds.length ≤ 1099511627776) : Ev (fun k => spec_l01Read.j1 k ⟨s.toArray⟩ ⟨ds.toArray⟩) (if 1 ≤ ds.length ∧ ds.length ≤ 7 then (if ds.all isDig = true then specEnd s ds (valN 0 ds) else (0, false)) else (0, false)) := by
  apply Ev.step
  · intro k; rw [spec_l01Read.j1]
  simp only [ba_sz, spec_l01In_eq, Option.bind_some]
  by_cases h : 1 ≤ ds.length ∧ ds.length ≤ 7
  · simp only [decide_eq_true (show 1 ≤ (ds.length : Int) ∧ (ds.length : Int) ≤ 7 by omega), if_true, if_pos h]
    have := read_l0 s ds h.2 hs ds.length 0 0 (by omega) (by decide)
    simpa using this
  · simp only [decide_eq_false (show ¬ (1 ≤ (ds.length : Int) ∧ (ds.length : Int) ≤ 7) by omega), if_neg Bool.false_ne_true, if_neg h]
    exact Ev.now _
theorem extract_tail (s : List UInt8) (a : Nat) : (⟨s.toArray⟩ : ByteArray).extract a (⟨s.toArray⟩ : ByteArray).size = ⟨(s.drop a).toArray⟩ := by
  have := Lib.extract_to_end (⟨s.toArray⟩ : ByteArray) a
  rw [← ba_self ((⟨s.toArray⟩ : ByteArray).extract a (⟨s.toArray⟩ : ByteArray).size), this]
theorem ev_spec_l01Read (S : ByteArray) (hs : S.size ≤ 1099511627776) : Ev (fun k => spec_l01Read.f k S) (specRead S.data.toList) := by
  obtain ⟨s, hS⟩ : ∃ s : List UInt8, S = ⟨s.toArray⟩ := ⟨_, (ba_self S).symm⟩
  subst hS
  rw [ba_sz] at hs
  show Ev _ (specRead s)
  simp only [spec_l01Read.f, ba_sz]
  cases s with
  | nil =>
    simp only [List.length_nil, Int.natCast_zero, if_neg (show ¬ (0 : Int) > 0 by omega)]
    apply Ev.step
    · intro k; rw [spec_l01Read.j0]
    simp only [if_neg Bool.false_ne_true]
    exact read_j1 [] [] (by simp) (by simp)
  | cons c r =>
    have h0 : 0 < (c :: r).length := by simp
    have hb : bt (⟨(c :: r).toArray⟩ : ByteArray) 0 = ((c.toNat : Nat) : Int) := bt_ba (c :: r) 0 h0
    simp only [if_pos (show ((c :: r).length : Int) > 0 by omega), if_pos (show 0 < ((c :: r).length : Int) by omega), hb]
    by_cases hc : c = 45
    · subst hc
      have e : restOf (45 :: r) = r := rfl
      have j := read_j1 (45 :: r) r hs (by simp at hs; omega)
      unfold specRead
      rw [e]
      apply Ev.step
      · intro k; rw [spec_l01Read.j0]
      simp only [show ((((45 : UInt8).toNat : Nat) : Int) == 45) = true from rfl, if_true, ba_sz, if_pos (show 1 ≤ ((45 :: r : List UInt8).length : Int) by simp only [List.length_cons]; omega)]
      have := extract_tail (45 :: r) 1
      rw [ba_sz] at this
      first | exact j | (simp only [this]; exact j)
    · have e : restOf (c :: r) = c :: r := by
        unfold restOf
        rw [if_neg]
        intro q
        simp only [List.head?_cons, Option.some.injEq] at q
        exact hc q
      have hn : ((((c.toNat : Nat) : Int)) == 45) = false := by
        rw [beq_eq_false_iff_ne]
        intro q
        exact hc (by rw [← UInt8.toNat_inj]; show c.toNat = 45; omega)
      have j := read_j1 (c :: r) (c :: r) hs hs
      unfold specRead
      rw [e]
      apply Ev.step
      · intro k; rw [spec_l01Read.j0]
      simp only [hn, if_neg Bool.false_ne_true]
      exact j

theorem spG_mem_len (c : UInt8) : ∀ (l cur : List UInt8), ∀ x ∈ spG c cur l, x.length ≤ cur.length + l.length
  | [], cur, x, hx => by
    rw [spG, List.mem_singleton] at hx
    subst hx
    simp
  | b :: l, cur, x, hx => by
    unfold spG at hx
    split at hx
    · rcases List.mem_cons.1 hx with rfl | hx
      · simp
      · have := spG_mem_len c l [] x hx; simp at *; omega
    · have := spG_mem_len c l (cur ++ [b]) x hx; simp at *; omega
theorem spB_size (S : ByteArray) (c : UInt8) : ∀ w ∈ spB S c, w.size ≤ S.size := by
  intro w hw
  unfold spB at hw
  obtain ⟨l, hl, rfl⟩ := List.mem_map.1 hw
  have := spG_mem_len c S.data.toList [] l hl
  rw [ba_sz]
  simp at this
  exact this
theorem spB_len (S : ByteArray) (c : UInt8) : (spB S c).length ≤ S.size + 1 := by
  unfold spB
  rw [List.length_map]
  have := spG_len c S.data.toList []
  simp at this
  exact this
theorem rdOf_mem {l : List ByteArray} {i : Nat} (h : i < l.length) : rdOf ByteArray.empty l (i : Int) ∈ l := by
  have : rdOf ByteArray.empty l (i : Int) = l[i] := by simp [rdOf, List.getD, h]
  rw [this]; exact List.getElem_mem h
theorem drop_rdOf (l : List ByteArray) (i : Nat) (h : i < l.length) : l.drop i = rdOf ByteArray.empty l (i : Int) :: l.drop (i + 1) := by
  rw [List.drop_eq_getElem_cons h]
  simp [rdOf, List.getD, h]
theorem take_rdOf (l : List ByteArray) (i : Nat) (h : i < l.length) : l.take i ++ [rdOf ByteArray.empty l (i : Int)] = l.take (i + 1) := by
  rw [List.take_add_one]
  simp [rdOf, List.getD, h]

theorem flat44 : ∀ (l : List (List UInt8)), (∀ x ∈ l, x.length ≤ 8) → (Go.Lib.joinTail [44] l).length ≤ 9 * l.length
  | [], _ => by simp [Go.Lib.joinTail]
  | x :: l, h => by
    have h1 := h x List.mem_cons_self
    have h2 := flat44 l (fun y hy => h y (List.mem_cons_of_mem _ hy))
    have e : Go.Lib.joinTail [44] (x :: l) = 44 :: (x ++ Go.Lib.joinTail [44] l) := by simp [Go.Lib.joinTail]
    rw [e]
    simp only [List.length_cons, List.length_append]
    omega
def rowsOf : List ByteArray → List Int → Option (List Int)
  | [], acc => some acc
  | w :: ws, acc => if w.data.toList = [45] then rowsOf ws (acc ++ [-2000000]) else if (Lay.readN w).2 = true then rowsOf ws (acc ++ [(Lay.readN w).1]) else none
def rowFin (o : Option (List Int)) : List Int × Bool := match o with
  | some l => if 64 < l.length then ([], false) else (l, true)
  | none => ([], false)
theorem itoa_len8 (v : Int) (h : isNumB v = true) : (Go.Lib.itoa v).length ≤ 8 := by
  rw [isNumB_eq, decide_eq_true_eq] at h
  have h7 := nDig7 v.natAbs (by omega)
  have hdl := Go.Lib.decDigits_length v.natAbs
  by_cases hn : v < 0
  · rw [itoa_neg' v hn, List.length_cons]; omega
  · rw [itoa_pos v (by omega)]; omega
theorem rowsOf_some : ∀ (ws : List ByteArray) (acc out : List Int), rowsOf ws acc = some out → out.length = acc.length + ws.length ∧ ∀ w ∈ ws, w.data.toList.length ≤ 8
  | [], acc, out, h => by
    unfold rowsOf at h
    obtain rfl := Option.some.inj h
    simp
  | w :: ws, acc, out, h => by
    unfold rowsOf at h
    split at h
    · rename_i h1
      obtain ⟨h2, h3⟩ := rowsOf_some ws _ out h
      refine ⟨by rw [h2]; simp; omega, fun x hx => ?_⟩
      rcases List.mem_cons.1 hx with rfl | hx
      · rw [h1]; simp
      · exact h3 x hx
    · split at h
      · rename_i h1
        obtain ⟨h2, h3⟩ := rowsOf_some ws _ out h
        refine ⟨by rw [h2]; simp; omega, fun x hx => ?_⟩
        rcases List.mem_cons.1 hx with rfl | hx
        · obtain ⟨h4, h5⟩ := readN_true h1
          rw [← h4]; exact itoa_len8 _ h5
        · exact h3 x hx
      · cases h
def specRow (S : ByteArray) : List Int × Bool := if S.data.toList = [40, 41] then ([], true) else if 600 < S.size then ([], false) else rowFin (rowsOf (spB S 44) [])
def implRow (S : ByteArray) : List Int × Bool := if S.data.toList = [40, 41] then ([], true) else rowFin (rowsOf (spB S 44) [])
theorem row_eq (S : ByteArray) : specRow S = implRow S := by
  unfold specRow implRow
  by_cases h0 : S.data.toList = [40, 41]
  · rw [if_pos h0, if_pos h0]
  rw [if_neg h0, if_neg h0]
  by_cases hl : 600 < S.size
  · rw [if_pos hl]
    unfold rowFin
    split
    · rename_i l hs
      by_cases h64 : 64 < l.length
      · rw [if_pos h64]
      · exfalso
        obtain ⟨h1, h2⟩ := rowsOf_some _ _ _ hs
        have hsz : S.data.toList.length = S.size := by rw [Array.length_toList]; rfl
        have hj := spG_join 44 S.data.toList []
        rw [List.nil_append] at hj
        have hlen : (spB S 44).length = (spG 44 [] S.data.toList).length := by unfold spB; rw [List.length_map]
        have hm : ∀ x ∈ spG 44 [] S.data.toList, x.length ≤ 8 := by
          intro x hx
          have := h2 ⟨x.toArray⟩ (by unfold spB; exact List.mem_map.2 ⟨x, hx, rfl⟩)
          simpa using this
        cases hg : spG 44 [] S.data.toList with
        | nil => exact spG_ne 44 _ _ hg
        | cons x r =>
          rw [hg, Go.Lib.join_cons] at hj
          rw [hg] at hm hlen
          have h3 := flat44 r (fun y hy => hm y (List.mem_cons_of_mem _ hy))
          have h4 := hm x List.mem_cons_self
          have h5 := congrArg List.length hj
          rw [List.length_append] at h5
          simp only [List.length_nil, Nat.zero_add] at h1
          simp only [List.length_cons] at hlen
          omega
    · rfl
  · rw [if_neg hl]
theorem toList_eq (S : ByteArray) (l : List UInt8) : (S.toList = l) ↔ S.data.toList = l := by rw [Lib.toList_data]

theorem impl_row_l0 (ws : List ByteArray) (hw : ∀ w ∈ ws, w.size ≤ 1048576) (hl : ws.length ≤ 1048577) : ∀ (d i : Nat) (acc : List Int), i + d = ws.length → acc.length ≤ i → Ev (fun k => impl_ParseRow.l0 k acc ws (ws.length : Int) i) (rowFin (rowsOf (ws.drop i) acc)) := by
  intro d
  induction d with
  | zero =>
    intro i acc h ha
    rw [List.drop_eq_nil_of_le (show ws.length ≤ i by omega)]
    apply Ev.step
    · intro k; rw [impl_ParseRow.l0]
    simp only [if_neg (show ¬ ((i : Int) < ws.length) by omega)]
    unfold rowsOf rowFin
    by_cases h64 : 64 < acc.length
    · simp only [if_pos (show (acc.length : Int) > 64 by omega), if_pos h64]; exact Ev.now _
    · simp only [if_neg (show ¬ (acc.length : Int) > 64 by omega), if_neg h64]; exact Ev.now _
  | succ d ih =>
    intro i acc h ha
    have hm := hw _ (rdOf_mem (l := ws) (i := i) (by omega))
    rw [drop_rdOf ws i (by omega)]
    generalize hwd : rdOf ByteArray.empty ws (i : Int) = w at hm ⊢
    unfold rowsOf
    apply Ev.step
    · intro k; rw [impl_ParseRow.l0]
    simp only [if_pos (show (i : Int) < ws.length by omega), if_pos (show (0 : Int) ≤ i by omega), hwd, impl_readNum.f, if_pos (show w.size ≤ 281474976710656 by omega), Option.bind_some]
    by_cases hd : w.data.toList = [45]
    · simp only [if_pos ((toList_eq w _).2 hd), if_pos hd, if_pos (show acc.length < 17592186044416 by omega), w64 (x := (i : Int) + 1) (by omega)]
      exact ih (i + 1) _ (by omega) (by simp; omega)
    · simp only [if_neg (fun q => hd ((toList_eq w _).1 q)), if_neg hd]
      by_cases hr : (Lay.readN w).2 = true
      · simp only [if_pos hr, if_pos (show acc.length < 17592186044416 by omega), w64 (x := (i : Int) + 1) (by omega)]
        exact ih (i + 1) _ (by omega) (by simp; omega)
      · simp only [if_neg hr]
        exact Ev.now _
theorem ev_impl_ParseRow (S : ByteArray) (hs : S.size ≤ 1048576) : Ev (fun k => impl_ParseRow.f k S) (implRow S) := by
  simp only [impl_ParseRow.f]
  unfold implRow
  by_cases h0 : S.data.toList = [40, 41]
  · simp only [if_pos ((toList_eq S _).2 h0), if_pos h0]; exact Ev.now _
  simp only [if_neg (fun q => h0 ((toList_eq S _).1 q)), if_neg h0, split_spB S 44 (by omega), Option.bind_some]
  have hp := spB_size S 44
  have hq := spB_len S 44
  have := impl_row_l0 (spB S 44) (fun w hw => by have := hp w hw; omega) (by omega) (spB S 44).length 0 [] (by omega) (by simp)
  simpa using this

theorem ev_eqIntS_l0 (x0 : List Int) (hl : x0.length ≤ 1099511627776) : ∀ (d : Nat) (i : Nat), i + d = x0.length → Ev (fun k => laws_eqIntS.l0 k x0 x0 i) true := by
  intro d
  induction d with
  | zero =>
    intro i h2
    apply Ev.step
    · intro k; rw [laws_eqIntS.l0]
    simp only [if_neg (show ¬ ((i : Int) < x0.length) by omega)]
    exact Ev.now _
  | succ d ih =>
    intro i h2
    apply Ev.step
    · intro k; rw [laws_eqIntS.l0]
    simp only [if_pos (show (i : Int) < x0.length by omega), if_pos (show (0 : Int) ≤ i by omega), if_true, w64 (x := (i : Int) + 1) (by omega)]
    have := ih (i + 1) (by omega)
    simpa using this
theorem ev_eqIntS (l : List Int) (h : l.length ≤ 1099511627776) : Ev (fun k => laws_eqIntS.f k l l) true := by
  simp only [laws_eqIntS.f, if_true]
  exact ev_eqIntS_l0 l h l.length 0 (by omega)

theorem ev_markIntS_l0 (a : Int) (n : Nat) (hn : n ≤ 1099511627776) (ha : 0 ≤ a ∧ a ≤ 1125899906842624) : ∀ (d : Nat) (x0 : List Int) (i : Nat), x0.length = n → i + d = n → (∀ j : Nat, j < i → rd x0 j = a + j) →
    ∃ L : List Int, L.length = n ∧ (∀ j : Nat, j < n → rd L j = a + j) ∧ Ev (fun k => laws_markIntS.l0 k x0 (a + i) i) (a + n, L) := by
  intro d
  induction d with
  | zero =>
    intro x0 i h1 h2 h3
    refine ⟨x0, h1, fun j hj => h3 j (by omega), ?_⟩
    apply Ev.step
    · intro k; rw [laws_markIntS.l0]
    obtain rfl : i = n := by omega
    simp only [if_neg (show ¬ ((i : Int) < x0.length) by omega)]
    exact Ev.now _
  | succ d ih =>
    intro x0 i h1 h2 h3
    obtain ⟨L, hL, hj, he⟩ := ih (x0.set i (a + i)) (i + 1) (by simp [h1]) (by omega) (by
      intro j hj
      by_cases e : j = i
      · subst e; rw [rd_set_self _ _ _ (by omega)]
      · rw [rd_set_ne _ _ _ _ (Ne.symm e)]; exact h3 j (by omega))
    refine ⟨L, hL, hj, ?_⟩
    apply Ev.step
    · intro k; rw [laws_markIntS.l0]
    simp only [if_pos (show (i : Int) < x0.length by omega), if_pos (show (0 : Int) ≤ i by omega), w64 (x := (i : Int) + 1) (by omega), w64 (x := a + (i : Int) + 1) (by omega)]
    simpa [Int.add_assoc] using he
theorem ev_markIntS (l : List Int) (a : Int) (hn : l.length ≤ 1099511627776) (ha : 0 ≤ a ∧ a ≤ 1125899906842624) :
    ∃ L : List Int, L.length = l.length ∧ (∀ j : Nat, j < l.length → rd L j = a + j) ∧ Ev (fun k => laws_markIntS.f k l a) (a + l.length, L) := by
  obtain ⟨L, h1, h2, h3⟩ := ev_markIntS_l0 a l.length hn ha l.length l 0 rfl (by omega) (by intro j hj; omega)
  exact ⟨L, h1, h2, by simpa [laws_markIntS.f] using h3⟩

theorem ev_heldIntS_l0 (a : Int) (ha : 0 ≤ a ∧ a ≤ 1125899906842624) (x0 : List Int) (hn : x0.length ≤ 1099511627776) (hj : ∀ j : Nat, j < x0.length → rd x0 j = a + j) : ∀ (d : Nat) (i : Nat), i + d = x0.length → Ev (fun k => laws_heldIntS.l0 k x0 (a + i) i) (a + x0.length) := by
  intro d
  induction d with
  | zero =>
    intro i h2
    apply Ev.step
    · intro k; rw [laws_heldIntS.l0]
    obtain rfl : i = x0.length := by omega
    simp only [if_neg (show ¬ ((x0.length : Int) < x0.length) by omega)]
    exact Ev.now _
  | succ d ih =>
    intro i h2
    apply Ev.step
    · intro k; rw [laws_heldIntS.l0]
    simp only [if_pos (show (i : Int) < x0.length by omega), if_pos (show (0 : Int) ≤ i by omega), if_pos (hj i (by omega)), w64 (x := (i : Int) + 1) (by omega), w64 (x := a + (i : Int) + 1) (by omega)]
    have := ih (i + 1) (by omega)
    simpa [Int.add_assoc] using this
theorem ev_heldIntS (L : List Int) (a : Int) (hn : L.length ≤ 1099511627776) (ha : 0 ≤ a ∧ a ≤ 1125899906842624) (hj : ∀ j : Nat, j < L.length → rd L j = a + j) : Ev (fun k => laws_heldIntS.f k L a) (a + L.length) := by
  have := ev_heldIntS_l0 a ha L hn hj L.length 0 (by omega)
  simpa [laws_heldIntS.f] using this
/-- What was marked is held. -/
theorem ev_intS (l : List Int) (a : Int) (hn : l.length ≤ 1099511627776) (ha : 0 ≤ a ∧ a ≤ 1125899906842624) : ∃ L : List Int, L.length = l.length ∧ Ev (fun k => laws_markIntS.f k l a) (a + l.length, L) ∧ Ev (fun k => laws_heldIntS.f k L a) (a + l.length) := by
  obtain ⟨L, h1, h2, h3⟩ := ev_markIntS l a hn ha
  exact ⟨L, h1, h3, by have := ev_heldIntS L a (by omega) ha (by rw [h1]; exact h2); rwa [h1] at this⟩

theorem extract_mid (s : List UInt8) (a b : Nat) : (⟨s.toArray⟩ : ByteArray).extract a b = ⟨((s.take b).drop a).toArray⟩ := by
  apply ByteArray.ext
  simp [ByteArray.data_extract, List.extract_toArray, List.extract_eq_take_drop, List.drop_take]
theorem parts_l0 (s : List UInt8) (c : UInt8) (hs : s.length ≤ 1099511627776) : ∀ (d at_ i : Nat) (acc : List ByteArray), i + d = s.length → at_ ≤ i → acc.length ≤ i → Ev (fun k => spec_l01Parts.l0 k ⟨s.toArray⟩ ((c.toNat : Nat) : Int) acc at_ i) (acc ++ (spG c ((s.take i).drop at_) (s.drop i)).map fun l => (⟨l.toArray⟩ : ByteArray)) := by
  intro d
  induction d with
  | zero =>
    intro at_ i acc h ha hl
    have hi : i = s.length := by omega
    apply Ev.step
    · intro k; rw [spec_l01Parts.l0]
    simp only [ba_sz, if_pos (show (i : Int) ≤ s.length by omega), if_pos (show (i : Int) = s.length by omega), if_pos (show (0 : Int) ≤ at_ by omega), if_pos (show (at_ : Int) ≤ i by omega), if_pos (show acc.length < 8796093022208 by omega), w64 (x := (i : Int) + 1) (by omega), Int.toNat_natCast, extract_mid]
    rw [List.drop_eq_nil_of_le (show s.length ≤ i by omega)]
    apply Ev.step
    · intro k; rw [spec_l01Parts.l0]
    simp only [ba_sz, if_neg (show ¬ (i : Int) + 1 ≤ s.length by omega), spG, List.map_cons, List.map_nil]
    exact Ev.now _
  | succ d ih =>
    intro at_ i acc h ha hl
    have hlt : i < s.length := by omega
    rw [List.drop_eq_getElem_cons hlt]
    apply Ev.step
    · intro k; rw [spec_l01Parts.l0]
    simp only [ba_sz, if_pos (show (i : Int) ≤ s.length by omega), if_neg (show ¬ (i : Int) = s.length by omega), if_pos (show (0 : Int) ≤ i by omega), if_pos (show (i : Int) < s.length by omega), bt_ba s i hlt]
    by_cases hc : s[i] = c
    · have ih' := ih (i + 1) (i + 1) (acc ++ [⟨((s.take i).drop at_).toArray⟩]) (by omega) (by omega) (by simp; omega)
      rw [show (s.take (i + 1)).drop (i + 1) = [] from List.drop_eq_nil_of_le (by rw [List.length_take]; omega)] at ih'
      rw [spG, if_pos hc]
      simp only [hc, if_true, if_pos (show (0 : Int) ≤ at_ by omega), if_pos (show (at_ : Int) ≤ i by omega), if_pos (show acc.length < 8796093022208 by omega), w64 (x := (i : Int) + 1) (by omega), Int.toNat_natCast, extract_mid, List.map_cons]
      simpa using ih'
    · have ih' := ih at_ (i + 1) acc (by omega) (by omega) (by omega)
      have e : (s.take (i + 1)).drop at_ = (s.take i).drop at_ ++ [s[i]] := by
        rw [List.take_succ_eq_append_getElem hlt, List.drop_append_of_le_length (by rw [List.length_take]; omega)]
      rw [e] at ih'
      rw [spG, if_neg hc]
      have hne : ¬ (((s[i]).toNat : Nat) : Int) = ((c.toNat : Nat) : Int) := fun q => hc (by rw [← UInt8.toNat_inj]; omega)
      simp only [if_neg hne, w64 (x := (i : Int) + 1) (by omega)]
      exact ih'
theorem ev_spec_l01Parts (S : ByteArray) (c : UInt8) (hs : S.size ≤ 1099511627776) (n : Int) (hn : n = ((c.toNat : Nat) : Int)) : Ev (fun k => spec_l01Parts.f k S n) (spB S c) := by
  obtain ⟨s, hS⟩ : ∃ s : List UInt8, S = ⟨s.toArray⟩ := ⟨_, (ba_self S).symm⟩
  subst hS
  subst hn
  rw [ba_sz] at hs
  have := parts_l0 s c hs s.length 0 0 [] (by omega) (by omega) (by simp)
  simpa [spec_l01Parts.f, spB] using this

theorem spec_row_l0 (ws : List ByteArray) (hw : ∀ w ∈ ws, w.size ≤ 1048576) (hl : ws.length ≤ 1048577) : ∀ (d i : Nat) (acc : List Int), i + d = ws.length → acc.length ≤ i → Ev (fun k => spec_ParseRow.l0 k acc ws i) (rowFin (rowsOf (ws.drop i) acc)) := by
  intro d
  induction d with
  | zero =>
    intro i acc h ha
    rw [List.drop_eq_nil_of_le (show ws.length ≤ i by omega)]
    apply Ev.step
    · intro k; rw [spec_ParseRow.l0]
    simp only [if_neg (show ¬ ((i : Int) < ws.length) by omega)]
    unfold rowsOf rowFin
    by_cases h64 : 64 < acc.length
    · simp only [if_pos (show (acc.length : Int) > 64 by omega), if_pos h64]; exact Ev.now _
    · simp only [if_neg (show ¬ (acc.length : Int) > 64 by omega), if_neg h64]; exact Ev.now _
  | succ d ih =>
    intro i acc h ha
    have hm := hw _ (rdOf_mem (l := ws) (i := i) (by omega))
    rw [drop_rdOf ws i (by omega)]
    generalize hwd : rdOf ByteArray.empty ws (i : Int) = w at hm ⊢
    unfold rowsOf
    apply Ev.step
    · intro k; rw [spec_ParseRow.l0]
    simp only [if_pos (show (i : Int) < ws.length by omega), if_pos (show (0 : Int) ≤ i by omega), hwd]
    by_cases hd : w.data.toList = [45]
    · simp only [if_pos ((toList_eq w _).2 hd), if_pos hd, if_pos (show acc.length < 17592186044416 by omega), w64 (x := (i : Int) + 1) (by omega)]
      exact ih (i + 1) _ (by omega) (by simp; omega)
    · simp only [if_neg (fun q => hd ((toList_eq w _).1 q)), if_neg hd]
      refine Ev.bind (ev_spec_l01Read w (by omega)) ?_
      have hre := read_eq w
      by_cases hr : (specRead w.data.toList).2 = true
      · have hr' := hre.1.symm.trans hr
        simp only [if_pos hr, if_pos hr', if_pos (show acc.length < 17592186044416 by omega), w64 (x := (i : Int) + 1) (by omega), hre.2 hr]
        exact ih (i + 1) _ (by omega) (by simp; omega)
      · have hr' : ¬ (Lay.readN w).2 = true := fun q => hr (hre.1.trans q)
        simp only [if_neg hr, if_neg hr']
        exact Ev.now _
theorem ev_spec_ParseRow (S : ByteArray) (hs : S.size ≤ 1048576) : Ev (fun k => spec_ParseRow.f k S) (specRow S) := by
  simp only [spec_ParseRow.f, Option.bind_some]
  unfold specRow
  by_cases h0 : S.data.toList = [40, 41]
  · simp only [if_pos ((toList_eq S _).2 h0), if_pos h0]; exact Ev.now _
  simp only [if_neg (fun q => h0 ((toList_eq S _).1 q)), if_neg h0]
  by_cases hl : 600 < S.size
  · simp only [if_pos (show (S.size : Int) > 600 by omega), if_pos hl]; exact Ev.now _
  simp only [if_neg (show ¬ (S.size : Int) > 600 by omega), if_neg hl]
  refine Ev.bind (ev_spec_l01Parts S 44 (by omega) 44 rfl) ?_
  have hp := spB_size S 44
  have hq := spB_len S 44
  have := spec_row_l0 (spB S 44) (fun w hw => by have := hp w hw; omega) (by omega) (spB S 44).length 0 [] (by omega) (by simp)
  simpa using this

theorem holds : ∀ (a0 : ByteArray), a0.size ≤ 140737488351232 → ∃ k, laws_FnExactParseRow.Facts k a0 := by
  intro S hS
  by_cases hs : (S.size : Int) > 1048576
  · exact ⟨0, .inl hs⟩
  have hel : (implRow S).1.length ≤ 64 := by
    unfold implRow rowFin
    split
    · simp
    · split
      · split
        · simp
        · simp only; omega
      · simp
  obtain ⟨k3, e3⟩ := ev_spec_ParseRow S (by omega)
  rw [row_eq S] at e3
  obtain ⟨k4, e4⟩ := ev_impl_ParseRow S (by omega)
  obtain ⟨k5, e5⟩ := ev_eqIntS (implRow S).1 (by omega)
  obtain ⟨L, hL, hj, hm⟩ := ev_markIntS (implRow S).1 1 (by omega) (by omega)
  have hh := ev_heldIntS L 1 (by omega) (by omega) (by rw [hL]; exact hj)
  rw [hL] at hh
  obtain ⟨k8, e8⟩ := hm
  obtain ⟨k9, e9⟩ := hh
  let k := k3 + k4 + k5 + k8 + k9
  exact ⟨k, .inr ⟨(implRow S).1, (implRow S).2, _, L, hs, e3 k (by omega), e4 k (by omega), e5 k (by omega), e8 k (by omega), e9 k (by omega), by omega⟩⟩

end EFnExactParseRow
open Go.RowKit Go.Proofs.YtbdfidnldaghbaaDoorW.PrintWords Go.Proofs.YtbdfidnldaghbaaDoorW.PrintLast Go.Proofs.YtbdfidnldaghbaaDoorW.PrintMore Go.Proofs.YtbdfidnldaghbaaDoor.Lib Go.Proofs.YtbdfidnldaghbaaDoor.Q
theorem FnExactParseRow : ∀ (a0 : ByteArray), a0.size ≤ 140737488351232 → ∃ k, laws_FnExactParseRow.Facts k a0 := EFnExactParseRow.holds
end Go.Proofs.YtbdfidnldaghbaaDoor.Pure
