/- Of every list of tables: the program's EncodeSchema gives what the reference's EncodeSchema gives, in new memory of its own, and its argument stays as it was. -/
import Derived.Test.YtlkgppihnolcmaaQmFnExactEncodeSchema
import Derived.Test.YtlkgppihnolcmaaShapes
import Derived.Test.YtlkgppihnolcmaaLib
set_option linter.unusedVariables false
set_option linter.unusedSimpArgs false
namespace Go.Proofs.Ytlkgppihnolcmaa.Pure
namespace EFnExactEncodeSchema
open Go.RowKit Go.Proofs.YtlkgppihnolcmaaW.PrintWords Go.Proofs.YtlkgppihnolcmaaW.PrintLast Go.Proofs.YtlkgppihnolcmaaW.PrintMore Go.Proofs.Ytlkgppihnolcmaa.Lib Go.Proofs.Ytlkgppihnolcmaa.Q

theorem ev_impl_CheckOf_l0 (b : List Int) (hb : Bytes b) (hl : b.length ≤ 1099511627776) : ∀ (d i : Nat), i + d = b.length → Ev (fun k => impl_CheckOf.l0 k (checkTo b i) b (b.length : Int) i) (checkOf b) := by
  intro d
  induction d with
  | zero =>
    intro i h
    obtain rfl : i = b.length := by omega
    apply Ev.step
    · intro k; rw [impl_CheckOf.l0]
    simp only [if_neg (show ¬ ((b.length : Int) < b.length) by omega)]
    exact Ev.now _
  | succ d ih =>
    intro i h
    have ih' := ih (i + 1) (by omega)
    have hc := checkTo_range b i
    have hr := Bytes_rd hb i
    apply Ev.step
    · intro k; rw [impl_CheckOf.l0]
    simp only [if_pos (show (i : Int) < b.length by omega), if_pos (show (0 : Int) ≤ i by omega), w64 (x := (i : Int) + 1) (by omega), w64 (x := rd b i) (by omega), w64 (x := 269 * checkTo b i) (by omega), w64 (x := 269 * checkTo b i + rd b i) (by omega), tmod_nn (show 0 ≤ 269 * checkTo b i + rd b i by omega)]
    exact ih'
theorem ev_impl_CheckOf (b : List Int) (hb : Bytes b) (hl : b.length ≤ 1099511627776) : Ev (fun k => impl_CheckOf.f k b) (checkOf b) :=
  ev_impl_CheckOf_l0 b hb hl b.length 0 (by omega)

theorem impl_in_eq (a b c : Int) : impl_in.f a b c = some (decide (b ≤ a ∧ a ≤ c)) := by
  unfold impl_in.f
  by_cases h : b ≤ a
  · rw [if_pos h]; simp [h]
  · rw [if_neg (show ¬ a ≥ b from h)]; simp [h]

theorem impl_isNum_eq (a : Int) : impl_isNum.f a = some (isNumB a) := by
  unfold impl_isNum.f; rw [impl_in_eq]; rfl

theorem ev_impl_PutNum_l0 (n : Int) (h : 0 ≤ n ∧ n < 2097152) : Ev (fun k => impl_PutNum.l0 k n []) (groups n) := by
  unfold groups
  by_cases h1 : n < 128
  · apply Ev.step
    · intro k; rw [impl_PutNum.l0]
    simp only [if_neg (show ¬ n ≥ 128 by omega), if_pos h1, List.length_nil, List.nil_append]
    exact Ev.const (by simp; omega)
  · apply Ev.step
    · intro k; rw [impl_PutNum.l0]
    simp only [if_pos (show n ≥ 128 by omega), if_neg h1, List.length_nil, List.nil_append, tmod_nn h.1, tdiv_nn h.1, w64 (x := n % 128 + 128) (by omega), w64 (x := n / 128) (by omega), show (n % 128 + 128) % 256 = n % 128 + 128 by omega]
    simp only [show (0 : Nat) < 140737488355328 by omega, if_true]
    by_cases h2 : n < 16384
    · apply Ev.step
      · intro k; rw [impl_PutNum.l0]
      simp only [if_neg (show ¬ n / 128 ≥ 128 by omega), if_pos h2, List.length_cons, List.length_nil]
      exact Ev.const (by simp; omega)
    · apply Ev.step
      · intro k; rw [impl_PutNum.l0]
      simp only [if_pos (show n / 128 ≥ 128 by omega), if_neg h2, List.length_cons, List.length_nil, tmod_nn (show 0 ≤ n / 128 by omega), tdiv_nn (show 0 ≤ n / 128 by omega), w64 (x := n / 128 % 128 + 128) (by omega), w64 (x := n / 128 / 128) (by omega), show (n / 128 % 128 + 128) % 256 = n / 128 % 128 + 128 by omega]
      simp only [show (0 + 1 : Nat) < 140737488355328 by omega, if_true, List.cons_append, List.nil_append]
      apply Ev.step
      · intro k; rw [impl_PutNum.l0]
      simp only [if_neg (show ¬ n / 128 / 128 ≥ 128 by omega), List.length_cons, List.length_nil]
      exact Ev.const (by simp; omega)
theorem ev_impl_PutNum (x : Int) : Ev (fun k => impl_PutNum.f k x) (putNum x) := by
  unfold putNum
  simp only [impl_PutNum.f, impl_isNum_eq, Option.bind_some]
  by_cases h : isNumB x = true
  · have hz := zig_range h
    have hb : -1000000 ≤ x ∧ x ≤ 1000000 := by simpa [isNumB] using h
    simp only [h, if_true]
    unfold zig at hz ⊢
    by_cases h0 : x < 0
    · simp only [h0, if_true] at hz ⊢
      apply Ev.step
      · intro k; rw [impl_PutNum.j0]
      simp only [w64 (x := -2 * x) (by omega), w64 (x := -2 * x - 1) (by omega)]
      exact ev_impl_PutNum_l0 _ (by omega)
    · simp only [h0, if_false] at hz ⊢
      apply Ev.step
      · intro k; rw [impl_PutNum.j0]
      simp only [w64 (x := 2 * x) (by omega)]
      exact ev_impl_PutNum_l0 _ (by omega)
  · simp only [h]
    exact Ev.now _

theorem concat_eq (k : Nat) (l : List (List Int)) (h : slices_Concat_byte_byte.sum l ≤ 35184372088832) : slices_Concat_byte_byte.f k l = some l.flatten := by
  unfold slices_Concat_byte_byte.f
  rw [if_pos h]

def frameB (b : List Int) : List Int := [80, 83] ++ (putNum b.length ++ (b ++ putNum (checkOf b)))
def frame (b : List Int) : List Int × Bool := if b.length ≤ 4000 then (frameB b, true) else ([], false)
theorem Bytes_app {a b : List Int} (ha : Bytes a) (hb : Bytes b) : Bytes (a ++ b) := fun x hx => (List.mem_append.1 hx).elim (ha x) (hb x)
theorem Bytes_put (x : Int) : Bytes (putNum x) := putNum_range x
theorem Bytes_nil : Bytes [] := fun x hx => by cases hx
theorem frameB_length (b : List Int) : (frameB b).length ≤ b.length + 8 := by
  have := putNum_length (b.length : Int)
  have := putNum_length (checkOf b)
  simp [frameB]; omega
theorem frame_length (b : List Int) : (frame b).1.length ≤ b.length + 8 := by
  unfold frame
  split
  · exact frameB_length b
  · simp
theorem checkOf_num (b : List Int) : isNumB (checkOf b) = true := by
  have := checkTo_range b b.length
  show decide _ = true
  rw [decide_eq_true_eq]
  unfold checkOf
  omega

theorem ev_impl_Frame (b : List Int) (hb : Bytes b) (hl : b.length ≤ 1048576) : Ev (fun k => impl_Frame.f k b) (frame b) := by
  simp only [impl_Frame.f, frame]
  have p1 := putNum_length (b.length : Int)
  have p2 := putNum_length (checkOf b)
  by_cases h : b.length ≤ 4000
  · simp only [if_neg (show ¬ (b.length : Int) > 4000 by omega), if_pos h]
    refine Ev.bind (ev_impl_PutNum _) ?_
    refine Ev.bind (ev_impl_CheckOf b hb (by omega)) ?_
    refine Ev.bind (ev_impl_PutNum _) ?_
    simp only [concat_eq _ [([80, 83] : List Int), putNum b.length, b, putNum (checkOf b)] (by simp [slices_Concat_byte_byte.sum]; omega), Option.bind_some]
    exact Ev.const (by simp [frameB])
  · simp only [if_pos (show (b.length : Int) > 4000 by omega), if_neg h]
    exact Ev.now _

theorem ev_impl_WordOk_l0 (s : ByteArray) (hs : s.size ≤ 1099511627776) : ∀ (d i : Nat), i + d = s.size → Ev (fun k => impl_WordOk.l0 k s (s.size : Int) i) (wordFrom s d i && decide (1 ≤ s.size ∧ s.size ≤ 12)) := by
  intro d
  induction d with
  | zero =>
    intro i h
    apply Ev.step
    · intro k; rw [impl_WordOk.l0]
    simp only [if_neg (show ¬ ((i : Int) < s.size) by omega), impl_in_eq, Option.bind_some, wordFrom, Bool.true_and]
    refine Ev.const (congrArg some ?_)
    exact decide_eq_decide.mpr (by omega)
  | succ d ih =>
    intro i h
    have ih' := ih (i + 1) (by omega)
    apply Ev.step
    · intro k; rw [impl_WordOk.l0]
    simp only [if_pos (show (i : Int) < s.size by omega), if_pos (show (0 : Int) ≤ i by omega), w64 (x := (i : Int) + 1) (by omega), wordFrom]
    by_cases h1 : bt s i ≥ 97
    · simp only [if_pos h1]
      by_cases h2 : bt s i ≤ 122
      · simp only [if_pos h2, show okAt s i = true by simp [okAt]; omega, Bool.true_and]; exact ih'
      · simp only [if_neg h2]
        by_cases h0 : (i : Int) = 0
        · simp only [if_pos h0, show okAt s i = false by simp [okAt]; omega, Bool.false_and]; exact Ev.now _
        · simp only [if_neg h0, if_neg (show ¬ bt s i < 48 by omega), if_pos (show bt s i > 57 by omega), show okAt s i = false by simp [okAt]; omega, Bool.false_and]; exact Ev.now _
    · simp only [if_neg h1]
      by_cases h0 : (i : Int) = 0
      · simp only [if_pos h0, show okAt s i = false by simp [okAt]; omega, Bool.false_and]; exact Ev.now _
      · simp only [if_neg h0]
        by_cases h2 : bt s i < 48
        · simp only [if_pos h2, show okAt s i = false by simp [okAt]; omega, Bool.false_and]; exact Ev.now _
        · by_cases h3 : bt s i > 57
          · simp only [if_neg h2, if_pos h3, show okAt s i = false by simp [okAt]; omega, Bool.false_and]; exact Ev.now _
          · simp only [if_neg h2, if_neg h3, show okAt s i = true by simp [okAt]; omega, Bool.true_and]; exact ih'
theorem ev_impl_WordOk (s : ByteArray) (hs : s.size ≤ 1099511627776) : Ev (fun k => impl_WordOk.f k s) (wordOk s) := by
  have := ev_impl_WordOk_l0 s hs s.size 0 (by omega)
  rw [Bool.and_comm] at this
  exact this

def putWord (s : ByteArray) : List Int := if wordOk s = true then putNum s.size ++ bytesOf s else []
theorem wordOk_size' {s : ByteArray} (h : wordOk s = true) : 1 ≤ s.size ∧ s.size ≤ 12 := by
  unfold wordOk at h
  simp only [Bool.and_eq_true, decide_eq_true_eq] at h
  exact h.1
theorem putWord_length (s : ByteArray) : (putWord s).length ≤ 1048576 := by
  unfold putWord
  by_cases h : wordOk s = true
  · rw [if_pos h, List.length_append, bytesOf_length]
    have := wordOk_size' h
    have := putNum_length (s.size : Int)
    omega
  · rw [if_neg h]; simp

theorem ev_impl_PutWord (s : ByteArray) (hs : s.size ≤ 1099511627776) : Ev (fun k => impl_PutWord.f k s) (putWord s) := by
  simp only [impl_PutWord.f]
  refine Ev.bind (ev_impl_WordOk s hs) ?_
  unfold putWord
  refine Ev_ite (fun h => ?_) (fun h => ?_)
  · rw [if_pos h]
    refine Ev.bind (ev_impl_PutNum _) ?_
    have := putNum_length (s.size : Int)
    simp only [if_pos (show (putNum (s.size : Int)).length + s.size < 140737488355328 by omega)]
    exact Ev.now _
  · rw [if_neg h]; exact Ev.now _

def schAt (s : List S42) (i : Nat) : Bool :=
  wordOk (rd_T42 s i).f0 && (decide (1 ≤ (rd_T42 s i).f1 ∧ (rd_T42 s i).f1 ≤ 6) && (decide (i = 0) || Op.bytesLess (rd_T42 s ((i : Int) - 1)).f0.toList (rd_T42 s i).f0.toList))
def schFrom (s : List S42) : Nat → Nat → Bool
  | 0, _ => true
  | d + 1, i => schAt s i && schFrom s d (i + 1)
def schemaOk (s : List S42) : Bool := decide (s.length ≤ 8) && schFrom s s.length 0
theorem rdT_mem {s : List S42} {i : Nat} (h : i < s.length) : rd_T42 s i ∈ s := by
  have := getD_mem (z := z42) h
  simpa [rd_T42] using this

theorem ev_impl_SchemaOk_l0 (s : List S42) (hl : s.length ≤ 1099511627776) (hs : ∀ x ∈ s, x.f0.size ≤ 1048576) : ∀ (d i : Nat), i + d = s.length → Ev (fun k => impl_SchemaOk.l0 k s s (s.length : Int) i) (schFrom s d i && decide (s.length ≤ 8)) := by
  intro d
  induction d with
  | zero =>
    intro i h
    apply Ev.step
    · intro k; rw [impl_SchemaOk.l0]
    simp only [if_neg (show ¬ ((i : Int) < s.length) by omega), schFrom, Bool.true_and]
    exact Ev.const (congrArg some (decide_eq_decide.mpr (by omega)))
  | succ d ih =>
    intro i h
    have ih' := ih (i + 1) (by omega)
    have hm := hs _ (rdT_mem (show i < s.length by omega))
    apply Ev.step
    · intro k; rw [impl_SchemaOk.l0]
    simp only [if_pos (show (i : Int) < s.length by omega), if_pos (show (0 : Int) ≤ i by omega), w64 (x := (i : Int) + 1) (by omega), schFrom, schAt]
    refine Ev.bind (ev_impl_WordOk _ (by omega)) ?_
    by_cases h1 : wordOk (rd_T42 s i).f0 = true
    · simp only [h1, if_true, impl_in_eq, Option.bind_some, Bool.true_and]
      by_cases h2 : 1 ≤ (rd_T42 s i).f1 ∧ (rd_T42 s i).f1 ≤ 6
      · simp only [decide_eq_true h2, if_true, Bool.true_and]
        by_cases h3 : (i : Int) > 0
        · simp only [if_pos h3, w64 (x := (i : Int) - 1) (by omega), if_pos (show (0 : Int) ≤ (i : Int) - 1 by omega), if_pos (show (i : Int) - 1 < s.length by omega), decide_eq_false (show ¬ i = 0 by omega), Bool.false_or]
          by_cases h4 : Op.bytesLess (rd_T42 s ((i : Int) - 1)).f0.toList (rd_T42 s i).f0.toList = true
          · simp only [h4, if_true, Bool.true_and]; simpa using ih'
          · simp only [if_neg h4, Bool.eq_false_iff.mpr h4, Bool.false_and]; exact Ev.now _
        · simp only [if_neg h3, decide_eq_true (show i = 0 by omega), Bool.true_or, Bool.true_and]; simpa using ih'
      · simp only [decide_eq_false h2, if_neg Bool.false_ne_true, Bool.false_and]; exact Ev.now _
    · simp only [if_neg h1, Bool.eq_false_iff.mpr h1, Bool.false_and]; exact Ev.now _
theorem ev_impl_SchemaOk (s : List S42) (hl : s.length ≤ 1099511627776) (hs : ∀ x ∈ s, x.f0.size ≤ 1048576) : Ev (fun k => impl_SchemaOk.f k s) (schemaOk s) := by
  have := ev_impl_SchemaOk_l0 s hl hs s.length 0 (by omega)
  rw [Bool.and_comm] at this
  simpa [impl_SchemaOk.f, schemaOk] using this

def encTabs : List S42 → List Int
  | [] => []
  | x :: xs => putWord x.f0 ++ (putNum x.f1 ++ encTabs xs)
def encSchema (s : List S42) : List Int × Bool := if schemaOk s = true then frame (putNum s.length ++ encTabs s) else ([], false)
theorem putWord_len (s : ByteArray) : (putWord s).length ≤ 15 := by
  unfold putWord
  by_cases h : wordOk s = true
  · rw [if_pos h, List.length_append, bytesOf_length]
    have := wordOk_size' h
    have := putNum_length (s.size : Int)
    omega
  · rw [if_neg h]; simp
theorem Bytes_bytesOf (s : ByteArray) : Bytes (bytesOf s) := by
  intro x hx
  unfold bytesOf at hx
  obtain ⟨y, _, rfl⟩ := List.mem_map.1 hx
  have := y.toNat_lt
  omega
theorem Bytes_putWord (s : ByteArray) : Bytes (putWord s) := by
  unfold putWord
  split
  · exact Bytes_app (Bytes_put _) (Bytes_bytesOf s)
  · exact Bytes_nil
theorem encTabs_len : ∀ s : List S42, (encTabs s).length ≤ 18 * s.length
  | [] => by simp [encTabs]
  | x :: xs => by
    have := encTabs_len xs
    have := putWord_len x.f0
    have := putNum_length x.f1
    simp only [encTabs, List.length_append, List.length_cons]
    omega
theorem Bytes_encTabs : ∀ s : List S42, Bytes (encTabs s)
  | [] => Bytes_nil
  | x :: xs => Bytes_app (Bytes_putWord _) (Bytes_app (Bytes_put _) (Bytes_encTabs xs))
theorem schemaOk_len {s : List S42} (h : schemaOk s = true) : s.length ≤ 8 := by
  unfold schemaOk at h
  simp only [Bool.and_eq_true, decide_eq_true_eq] at h
  exact h.1
theorem drop_rdTab (p : List S42) (i : Nat) (h : i < p.length) : p.drop i = rd_T42 p i :: p.drop (i + 1) := by
  rw [drop_getD p z42 i h]; simp [rd_T42]
theorem encSchema_length (s : List S42) : (encSchema s).1.length ≤ 1000 := by
  unfold encSchema
  split
  · rename_i h
    have h1 := schemaOk_len h
    have h2 := encTabs_len s
    have h3 := putNum_length (s.length : Int)
    have h4 := frame_length (putNum s.length ++ encTabs s)
    rw [List.length_append] at h4
    omega
  · simp

theorem ev_impl_EncodeSchema_l0 (s : List S42) (hl : s.length ≤ 8) (hs : ∀ x ∈ s, x.f0.size ≤ 1048576) : ∀ (d i : Nat) (acc : List Int), i + d = s.length → acc.length ≤ 3 + 18 * i → Bytes acc → Ev (fun k => impl_EncodeSchema.l0 k acc s s.length i) (frame (acc ++ encTabs (s.drop i))) := by
  intro d
  induction d with
  | zero =>
    intro i acc h ha hb
    apply Ev.step
    · intro k; rw [impl_EncodeSchema.l0]
    simp only [if_neg (show ¬ ((i : Int) < s.length) by omega)]
    rw [List.drop_eq_nil_of_le (by omega), encTabs, List.append_nil]
    refine Ev.bind (ev_impl_Frame acc hb (by omega)) ?_
    exact Ev.now _
  | succ d ih =>
    intro i acc h ha hb
    have hm := hs _ (rdT_mem (show i < s.length by omega))
    have pw := putWord_len (rd_T42 s i).f0
    have pn := putNum_length (rd_T42 s i).f1
    have ih' := ih (i + 1) (acc ++ putWord (rd_T42 s i).f0 ++ putNum (rd_T42 s i).f1) (by omega) (by simp; omega) (Bytes_app (Bytes_app hb (Bytes_putWord _)) (Bytes_put _))
    apply Ev.step
    · intro k; rw [impl_EncodeSchema.l0]
    simp only [if_pos (show (i : Int) < s.length by omega), if_pos (show (0 : Int) ≤ i by omega), w64 (x := (i : Int) + 1) (by omega)]
    refine Ev.bind (ev_impl_PutWord _ (by omega)) ?_
    refine Ev.bind (ev_impl_PutNum _) ?_
    simp only [concat_eq _ [acc, putWord (rd_T42 s i).f0, putNum (rd_T42 s i).f1] (by simp [slices_Concat_byte_byte.sum]; omega), Option.bind_some]
    rw [drop_rdTab s i (by omega), encTabs]
    simpa using ih'
theorem ev_impl_EncodeSchema (s : List S42) (hl : s.length ≤ 1048576) (hs : ∀ x ∈ s, x.f0.size ≤ 1048576) : Ev (fun k => impl_EncodeSchema.f k s) (encSchema s) := by
  simp only [impl_EncodeSchema.f]
  refine Ev.bind (ev_impl_SchemaOk s (by omega) hs) ?_
  unfold encSchema
  refine Ev_ite (fun h => ?_) (fun h => ?_)
  · rw [if_pos h]
    refine Ev.bind (ev_impl_PutNum _) ?_
    have := putNum_length (s.length : Int)
    simpa using ev_impl_EncodeSchema_l0 s (schemaOk_len h) hs s.length 0 (putNum s.length) (by omega) (by omega) (Bytes_put _)
  · rw [if_neg h]; exact Ev.now _

theorem ev_eqByteS_l0 (x0 : List Int) (hl : x0.length ≤ 1099511627776) : ∀ (d : Nat) (i : Nat), i + d = x0.length → Ev (fun k => laws_eqByteS.l0 k x0 x0 i) true := by
  intro d
  induction d with
  | zero =>
    intro i h2
    apply Ev.step
    · intro k; rw [laws_eqByteS.l0]
    simp only [if_neg (show ¬ ((i : Int) < x0.length) by omega)]
    exact Ev.now _
  | succ d ih =>
    intro i h2
    apply Ev.step
    · intro k; rw [laws_eqByteS.l0]
    simp only [if_pos (show (i : Int) < x0.length by omega), if_pos (show (0 : Int) ≤ i by omega), if_true, w64 (x := (i : Int) + 1) (by omega)]
    have := ih (i + 1) (by omega)
    simpa using this
theorem ev_eqByteS (l : List Int) (h : l.length ≤ 1099511627776) : Ev (fun k => laws_eqByteS.f k l l) true := by
  simp only [laws_eqByteS.f, if_true]
  exact ev_eqByteS_l0 l h l.length 0 (by omega)

theorem eqTable_eq (a : ByteArray) (b : Int) : laws_eqTable.f a b a b = some true := by simp [laws_eqTable.f]

theorem ev_laws_eqTableS_l0 (x0 : List (S42)) (hl : x0.length ≤ 1099511627776) (hs : ∀ x ∈ x0, True) : ∀ (d : Nat) (i : Nat), i + d = x0.length → Ev (fun k => laws_eqTableS.l0 k x0 x0 i) true := by
  intro d
  induction d with
  | zero =>
    intro i h2
    apply Ev.step
    · intro k; rw [laws_eqTableS.l0]
    simp only [if_neg (show ¬ ((i : Int) < x0.length) by omega)]
    exact Ev.now _
  | succ d ih =>
    intro i h2
    have hg : x0[i]? = some (rd_T42 x0 (i : Int)) := by simp [rd_T42, show i < x0.length by omega]
    have hm := hs _ (List.mem_of_getElem? hg)
    apply Ev.step
    · intro k; rw [laws_eqTableS.l0]
    simp only [if_pos (show (i : Int) < x0.length by omega), if_pos (show (0 : Int) ≤ i by omega)]
    refine Ev.bind (Ev.const (eqTable_eq _ _)) ?_
    simp only [if_true, w64 (x := (i : Int) + 1) (by omega)]
    have := ih (i + 1) (by omega)
    simpa using this
theorem ev_laws_eqTableS (l : List (S42)) (h : l.length ≤ 1099511627776) (hs : ∀ x ∈ l, True) : Ev (fun k => laws_eqTableS.f k l l) true := by
  simp only [laws_eqTableS.f, if_true]
  exact ev_laws_eqTableS_l0 l h hs l.length 0 (by omega)

theorem ev_markByteS_l0 (a : Int) (n : Nat) (hn : n ≤ 1099511627776) (ha : 0 ≤ a ∧ a ≤ 1125899906842624) : ∀ (d : Nat) (x0 : List Int) (i : Nat), x0.length = n → i + d = n → (∀ j : Nat, j < i → rd x0 j = (a + j) % 256) →
    ∃ L : List Int, L.length = n ∧ (∀ j : Nat, j < n → rd L j = (a + j) % 256) ∧ Ev (fun k => laws_markByteS.l0 k x0 (a + i) i) (a + n, L) := by
  intro d
  induction d with
  | zero =>
    intro x0 i h1 h2 h3
    refine ⟨x0, h1, fun j hj => h3 j (by omega), ?_⟩
    apply Ev.step
    · intro k; rw [laws_markByteS.l0]
    obtain rfl : i = n := by omega
    simp only [if_neg (show ¬ ((i : Int) < x0.length) by omega)]
    exact Ev.now _
  | succ d ih =>
    intro x0 i h1 h2 h3
    obtain ⟨L, hL, hj, he⟩ := ih (x0.set i ((a + i) % 256)) (i + 1) (by simp [h1]) (by omega) (by
      intro j hj
      by_cases e : j = i
      · subst e; rw [rd_set_self _ _ _ (by omega)]
      · rw [rd_set_ne _ _ _ _ (Ne.symm e)]; exact h3 j (by omega))
    refine ⟨L, hL, hj, ?_⟩
    apply Ev.step
    · intro k; rw [laws_markByteS.l0]
    simp only [if_pos (show (i : Int) < x0.length by omega), if_pos (show (0 : Int) ≤ i by omega), w64 (x := (i : Int) + 1) (by omega), w64 (x := a + (i : Int) + 1) (by omega)]
    simpa [Int.add_assoc] using he
theorem ev_markByteS (l : List Int) (a : Int) (hn : l.length ≤ 1099511627776) (ha : 0 ≤ a ∧ a ≤ 1125899906842624) :
    ∃ L : List Int, L.length = l.length ∧ (∀ j : Nat, j < l.length → rd L j = (a + j) % 256) ∧ Ev (fun k => laws_markByteS.f k l a) (a + l.length, L) := by
  obtain ⟨L, h1, h2, h3⟩ := ev_markByteS_l0 a l.length hn ha l.length l 0 rfl (by omega) (by intro j hj; omega)
  exact ⟨L, h1, h2, by simpa [laws_markByteS.f] using h3⟩

theorem ev_heldByteS_l0 (a : Int) (ha : 0 ≤ a ∧ a ≤ 1125899906842624) (x0 : List Int) (hn : x0.length ≤ 1099511627776) (hj : ∀ j : Nat, j < x0.length → rd x0 j = (a + j) % 256) : ∀ (d : Nat) (i : Nat), i + d = x0.length → Ev (fun k => laws_heldByteS.l0 k x0 (a + i) i) (a + x0.length) := by
  intro d
  induction d with
  | zero =>
    intro i h2
    apply Ev.step
    · intro k; rw [laws_heldByteS.l0]
    obtain rfl : i = x0.length := by omega
    simp only [if_neg (show ¬ ((x0.length : Int) < x0.length) by omega)]
    exact Ev.now _
  | succ d ih =>
    intro i h2
    apply Ev.step
    · intro k; rw [laws_heldByteS.l0]
    simp only [if_pos (show (i : Int) < x0.length by omega), if_pos (show (0 : Int) ≤ i by omega), if_pos (hj i (by omega)), w64 (x := (i : Int) + 1) (by omega), w64 (x := a + (i : Int) + 1) (by omega)]
    have := ih (i + 1) (by omega)
    simpa [Int.add_assoc] using this
theorem ev_heldByteS (L : List Int) (a : Int) (hn : L.length ≤ 1099511627776) (ha : 0 ≤ a ∧ a ≤ 1125899906842624) (hj : ∀ j : Nat, j < L.length → rd L j = (a + j) % 256) : Ev (fun k => laws_heldByteS.f k L a) (a + L.length) := by
  have := ev_heldByteS_l0 a ha L hn hj L.length 0 (by omega)
  simpa [laws_heldByteS.f] using this
/-- What was marked is held. -/
theorem ev_byteS (l : List Int) (a : Int) (hn : l.length ≤ 1099511627776) (ha : 0 ≤ a ∧ a ≤ 1125899906842624) : ∃ L : List Int, L.length = l.length ∧ Ev (fun k => laws_markByteS.f k l a) (a + l.length, L) ∧ Ev (fun k => laws_heldByteS.f k L a) (a + l.length) := by
  obtain ⟨L, h1, h2, h3⟩ := ev_markByteS l a hn ha
  exact ⟨L, h1, h3, by have := ev_heldByteS L a (by omega) ha (by rw [h1]; exact h2); rwa [h1] at this⟩

theorem markText_l0 : ∀ (d : Nat) (x0 : Int) (x3 : ByteArray), 0 ≤ x0 → x0 ≤ 9223372036854775807 → x0 < 10 ^ d → x3.size + d ≤ 1000 → ∃ r, laws_markText.l0 (d + 1) x0 x3 = some r
  | 0, x0, x3, h0, hb, h1, h2 => by
    have hz : x0 = 0 := by simp at h1; omega
    exact ⟨(⟨#[109]⟩ : ByteArray) ++ x3, by rw [laws_markText.l0, if_neg (by omega), if_pos (by omega)]⟩
  | d + 1, x0, x3, h0, hb, h1, h2 => by
    by_cases hp : x0 > 0
    · have hd : x0 / 10 < 10 ^ d := by
        rw [Int.pow_succ] at h1
        exact Int.ediv_lt_of_lt_mul (by omega) h1
      obtain ⟨r, hr2⟩ := markText_l0 d (x0 / 10) (strOfNums [(wrap64 (48 + (Int.tmod x0 10))) % 256] ++ x3) (by omega) (by omega) hd (by rw [ByteArray.size_append, strOfNums_size]; simp; omega)
      refine ⟨r, ?_⟩
      rw [laws_markText.l0, if_pos hp]
      simp only [Option.bind_some]
      rw [if_pos (by rw [strOfNums_size]; simp; omega), tdiv_nn h0, w64 (by omega)]
      exact hr2
    · exact ⟨(⟨#[109]⟩ : ByteArray) ++ x3, by rw [laws_markText.l0, if_neg hp, if_pos (by omega)]⟩
theorem markText_20 (x : Int) (h1 : x ≤ 9223372036854775807) : ∃ r, laws_markText.f 20 x = some r := by
  unfold laws_markText.f
  by_cases h : x ≤ 0
  · exact ⟨_, if_pos h⟩
  · rw [if_neg h]
    exact markText_l0 19 x _ (by omega) h1 (by omega) (by decide)
def mtext (x : Int) : ByteArray := (laws_markText.f 20 x).getD ⟨#[]⟩
theorem ev_markText (x : Int) (h1 : x ≤ 9223372036854775807) : Ev (fun k => laws_markText.f k x) (mtext x) := by
  obtain ⟨r, hr⟩ := markText_20 x h1
  have : mtext x = r := by simp [mtext, hr]
  rw [this]
  exact Ev.of (laws_markText.mono x) hr

def markT (a : Int) : List S42 → List S42
  | [] => []
  | _ :: xs => ⟨mtext a, a + 1⟩ :: markT (a + 2) xs
theorem markT_length : ∀ (l : List S42) (a : Int), (markT a l).length = l.length
  | [], _ => rfl
  | r :: rs, a => by simp [markT, markT_length rs]
theorem ev_markTableS_l0 : ∀ (rs dn : List S42) (a : Int), dn.length + rs.length ≤ 1048576 → 0 ≤ a → a + 2 * rs.length ≤ 4194304 →
    Ev (fun k => laws_markTableS.l0 k (dn ++ rs) a dn.length) (a + 2 * rs.length, dn ++ markT a rs)
  | [], dn, a, h1, h3, h4 => by
    apply Ev.step
    · intro k; rw [laws_markTableS.l0]
    simp only [List.append_nil, if_neg (show ¬ ((dn.length : Int) < dn.length) by omega), markT, List.length_nil]
    exact Ev.const (by simp)
  | r :: rs, dn, a, h1, h3, h4 => by
    simp only [List.length_cons] at h1 h4
    have ih := ev_markTableS_l0 rs (dn ++ [⟨mtext a, a + 1⟩]) (a + 2) (by simp; omega) (by omega) (by omega)
    apply Ev.step
    · intro k; rw [laws_markTableS.l0]
    simp only [if_pos (show (dn.length : Int) < ((dn ++ r :: rs).length : Int) by simp; omega), if_pos (show (0 : Int) ≤ dn.length by omega), w64 (x := a + 1) (by omega), w64 (x := a + 1 + 1) (by omega), w64 (x := (dn.length : Int) + 1) (by omega)]
    refine Ev.bind (ev_markText a (by omega)) ?_
    simp only [Option.bind_some, Int.toNat_natCast]
    have e : ∀ y : S42, (dn ++ r :: rs).set dn.length y = dn ++ y :: rs := fun y => by simp
    have e2 : ∀ y z : S42, (dn ++ y :: rs).set dn.length z = dn ++ [z] ++ rs := fun y z => by simp
    rw [e, e2, show rd_T42 (dn ++ (⟨mtext a, (rd_T42 (dn ++ r :: rs) (dn.length : Int)).f1⟩ : S42) :: rs) (dn.length : Int) = ⟨mtext a, (rd_T42 (dn ++ r :: rs) (dn.length : Int)).f1⟩ by simp [rd_T42]]
    rw [show a + 1 + 1 = a + 2 by omega]
    simp only [List.length_append, List.length_cons, List.length_nil] at ih
    have e3 : (a + 2 + 2 * (rs.length : Int)) = a + 2 * ((rs.length + 1 : Nat) : Int) := by omega
    rw [e3] at ih
    simpa [markT] using ih
theorem ev_markTableS (l : List S42) (hl : l.length ≤ 1048576) : Ev (fun k => laws_markTableS.f k l 1) (1 + 2 * l.length, markT 1 l) := by
  simpa [laws_markTableS.f] using ev_markTableS_l0 l [] 1 (by simp; omega) (by omega) (by omega)

theorem szTable_eq (s : ByteArray) (n : Int) (a : Int) (h0 : 0 ≤ a) (h1 : a ≤ 1048576) (hl : s.size ≤ 9223372036854775807) : ∃ r, laws_szTable.f s n a = some r ∧ -1 ≤ r ∧ r ≤ a ∧ (0 ≤ r → s.size ≤ 1048576) := by
  by_cases hn : a - (s.size : Int) < 0
  · exact ⟨-1, by simp only [laws_szTable.f, w64 (x := a - (s.size : Int)) (by omega), if_pos hn], by omega, by omega, fun h => by omega⟩
  · exact ⟨a - s.size, by simp only [laws_szTable.f, w64 (x := a - (s.size : Int)) (by omega), if_neg hn], by omega, by omega, fun h => by omega⟩
theorem ev_szTable (x : S53) (a : Int) (h0 : 0 ≤ a) (h1 : a ≤ 1048576) (hl : x.f0.size ≤ 9223372036854775807) : ∃ r, Ev (fun _ => laws_szTable.f x.f0 x.f1 a) r ∧ -1 ≤ r ∧ r ≤ a ∧ (0 ≤ r → x.f0.size ≤ 1048576) := by
  obtain ⟨r, h, g⟩ := szTable_eq x.f0 x.f1 a h0 h1 hl
  exact ⟨r, Ev.const h, g⟩

def SmallTableS (l : List S53) : Prop := l.length ≤ 1048576 ∧ ∀ x ∈ l, x.f0.size ≤ 1048576
def cvTable (x : S53) : S42 := ⟨x.f0, x.f1⟩

theorem ev_laws_szTableS_l0 (x0 : List (S53)) (hl : x0.length ≤ 9223372036854775806) (hs : ∀ x ∈ x0, x.f0.size ≤ 9223372036854775807) : ∀ (d : Nat) (a : Int) (i : Nat), i + d = x0.length → 0 ≤ a → a ≤ 1048576 → ∃ r, Ev (fun k => laws_szTableS.l0 k x0 a i) r ∧ -1 ≤ r ∧ r ≤ a ∧ (0 ≤ r → ∀ x ∈ x0.drop i, x.f0.size ≤ 1048576) := by
  intro d
  induction d with
  | zero =>
    intro a i h2 h0 h1
    refine ⟨a, ?_, by omega, by omega, fun _ x hx => ?_⟩
    · apply Ev.step
      · intro k; rw [laws_szTableS.l0]
      simp only [if_neg (show ¬ ((i : Int) < x0.length) by omega)]
      exact Ev.now _
    · rw [List.drop_eq_nil_of_le (by omega)] at hx; cases hx
  | succ d ih =>
    intro a i h2 h0 h1
    have hg : x0[i]? = some (rd_T53 x0 (i : Int)) := by simp [rd_T53, show i < x0.length by omega]
    have hm := hs _ (List.mem_of_getElem? hg)
    obtain ⟨r1, e1, g1, g2, g3⟩ := ev_szTable (rd_T53 x0 (i : Int)) a h0 h1 hm
    have hd : x0.drop i = rd_T53 x0 (i : Int) :: x0.drop (i + 1) := by
      rw [List.drop_eq_getElem_cons (show i < x0.length by omega)]
      congr 1
      rw [List.getElem?_eq_getElem (show i < x0.length by omega)] at hg
      injection hg
    by_cases hr : r1 < 0
    · refine ⟨-1, ?_, by omega, by omega, fun h => by omega⟩
      apply Ev.step
      · intro k; rw [laws_szTableS.l0]
      simp only [if_pos (show (i : Int) < x0.length by omega), if_pos (show (0 : Int) ≤ i by omega)]
      refine Ev.bind e1 ?_
      simp only [if_pos hr]
      exact Ev.now _
    · obtain ⟨r2, e2, g4, g5, g6⟩ := ih r1 (i + 1) (by omega) (by omega) (by omega)
      refine ⟨r2, ?_, by omega, by omega, fun h x hx => ?_⟩
      · apply Ev.step
        · intro k; rw [laws_szTableS.l0]
        simp only [if_pos (show (i : Int) < x0.length by omega), if_pos (show (0 : Int) ≤ i by omega)]
        refine Ev.bind e1 ?_
        simp only [if_neg hr, w64 (x := (i : Int) + 1) (by omega)]
        simpa using e2
      · rw [hd] at hx
        rcases List.mem_cons.1 hx with rfl | hx
        · exact g3 (by omega)
        · exact g6 h x hx
theorem ev_laws_szTableS (l : List (S53)) (a : Int) (h0 : 0 ≤ a) (h1 : a ≤ 1048576) (hl : l.length ≤ 9223372036854775807) (hs : ∀ x ∈ l, x.f0.size ≤ 9223372036854775807) : ∃ r, Ev (fun k => laws_szTableS.f k l a) r ∧ -1 ≤ r ∧ r ≤ a ∧ (0 ≤ r → SmallTableS l) := by
  by_cases hn : a - (l.length : Int) < 0
  · refine ⟨-1, ?_, by omega, by omega, fun h => by omega⟩
    simp only [laws_szTableS.f, w64 (x := a - (l.length : Int)) (by omega), if_pos hn]
    exact Ev.now _
  · obtain ⟨r, e, g1, g2, g3⟩ := ev_laws_szTableS_l0 l (by omega) hs l.length (a - l.length) 0 (by omega) (by omega) (by omega)
    refine ⟨r, ?_, by omega, by omega, fun h => ⟨by omega, by simpa using g3 h⟩⟩
    simp only [laws_szTableS.f, w64 (x := a - (l.length : Int)) (by omega), if_neg hn]
    exact e

theorem ev_laws_toTableS_l0 (x0 : List (S53)) (hl : x0.length ≤ 1048576) (hs : ∀ x ∈ x0, x.f0.size ≤ 1048576) : ∀ (d : Nat) (x3 : List (S42)) (i : Nat), x3.length = x0.length → i + d = x0.length → x3.take i = (x0.map cvTable).take i → Ev (fun k => laws_toTableS.l0 k x0 x3 i) (x0.map cvTable) := by
  intro d
  induction d with
  | zero =>
    intro x3 i h1 h2 h3
    apply Ev.step
    · intro k; rw [laws_toTableS.l0]
    simp only [if_neg (show ¬ ((i : Int) < x0.length) by omega)]
    rw [take_eq_all (xs := x0.map cvTable) (by simpa using h1) (by simp; omega) h3]
    exact Ev.now _
  | succ d ih =>
    intro x3 i h1 h2 h3
    have hg : x0[i]? = some (rd_T53 x0 (i : Int)) := by simp [rd_T53, show i < x0.length by omega]
    have hm := hs _ (List.mem_of_getElem? hg)
    apply Ev.step
    · intro k; rw [laws_toTableS.l0]
    simp only [if_pos (show (i : Int) < x0.length by omega), if_pos (show (0 : Int) ≤ i by omega)]
    simp only [laws_toTable.f, Option.bind_some]
    simp only [if_pos (show (i : Int) < x3.length by omega), w64 (x := (i : Int) + 1) (by omega)]
    have := ih (x3.set i ((⟨(rd_T53 x0 (i : Int)).f0, (rd_T53 x0 (i : Int)).f1⟩ : S42))) (i + 1) (by simp [h1]) (by omega) (take_set_at (x0.map cvTable) _ _ _ (by simpa using h1) (by simp; omega) (by rw [List.getElem?_map, hg]; rfl) h3)
    first | (simpa using this) | (simpa [cvTable] using this)
theorem ev_laws_toTableS (l : List (S53)) (h : SmallTableS l) : Ev (fun k => laws_toTableS.f k l) (l.map cvTable) := by
  have h1 := h.1
  simp only [laws_toTableS.f, if_pos (show (0 : Int) ≤ l.length by omega), if_pos (show (l.length : Int).toNat ≤ 11728124029610 by omega)]
  exact ev_laws_toTableS_l0 l h.1 h.2 l.length _ 0 (by simp) (by omega) (by simp)

theorem ev_spec_CheckOf_l0 (b : List Int) (hb : Bytes b) (hl : b.length ≤ 1099511627776) : ∀ (d i : Nat), i + d = b.length → Ev (fun k => spec_CheckOf.l0 k b (checkTo b i) i) (checkOf b) := by
  intro d
  induction d with
  | zero =>
    intro i h
    obtain rfl : i = b.length := by omega
    apply Ev.step
    · intro k; rw [spec_CheckOf.l0]
    simp only [if_neg (show ¬ ((b.length : Int) < b.length) by omega)]
    exact Ev.now _
  | succ d ih =>
    intro i h
    have ih' := ih (i + 1) (by omega)
    have hc := checkTo_range b i
    have hr := Bytes_rd hb i
    apply Ev.step
    · intro k; rw [spec_CheckOf.l0]
    simp only [if_pos (show (i : Int) < b.length by omega), if_pos (show (0 : Int) ≤ i by omega), w64 (x := (i : Int) + 1) (by omega), w64 (x := rd b i) (by omega), w64 (x := 269 * checkTo b i) (by omega), w64 (x := 269 * checkTo b i + rd b i) (by omega), tmod_nn (show 0 ≤ 269 * checkTo b i + rd b i by omega)]
    exact ih'
theorem ev_spec_CheckOf (b : List Int) (hb : Bytes b) (hl : b.length ≤ 1099511627776) : Ev (fun k => spec_CheckOf.f k b) (checkOf b) :=
  ev_spec_CheckOf_l0 b hb hl b.length 0 (by omega)

theorem spec_l01In_eq (a b c : Int) : spec_l01In.f a b c = some (decide (b ≤ a ∧ a ≤ c)) := by
  unfold spec_l01In.f
  by_cases h : b ≤ a
  · rw [if_pos h]; simp [h]
  · rw [if_neg h]; simp [h]

theorem spec_l01Number_eq (a : Int) : spec_l01Number.f a = some (isNumB a) := by
  unfold spec_l01Number.f; rw [spec_l01In_eq]; rfl

theorem ev_spec_PutNum_l0 (n : Int) (h : 0 ≤ n ∧ n < 2097152) : Ev (fun k => spec_PutNum.l0 k [] n) (groups n) := by
  unfold groups
  by_cases h1 : n < 128
  · apply Ev.step
    · intro k; rw [spec_PutNum.l0]
    simp only [if_neg (show ¬ n ≥ 128 by omega), if_pos h1, List.length_nil, List.nil_append]
    exact Ev.const (by simp; omega)
  · apply Ev.step
    · intro k; rw [spec_PutNum.l0]
    simp only [if_pos (show n ≥ 128 by omega), if_neg h1, List.length_nil, List.nil_append, tmod_nn h.1, tdiv_nn h.1, w64 (x := 128 + n % 128) (by omega), w64 (x := n / 128) (by omega), show (128 + n % 128) % 256 = n % 128 + 128 by omega]
    simp only [show (0 : Nat) < 140737488355328 by omega, if_true]
    by_cases h2 : n < 16384
    · apply Ev.step
      · intro k; rw [spec_PutNum.l0]
      simp only [if_neg (show ¬ n / 128 ≥ 128 by omega), if_pos h2, List.length_cons, List.length_nil]
      exact Ev.const (by simp; omega)
    · apply Ev.step
      · intro k; rw [spec_PutNum.l0]
      simp only [if_pos (show n / 128 ≥ 128 by omega), if_neg h2, List.length_cons, List.length_nil, tmod_nn (show 0 ≤ n / 128 by omega), tdiv_nn (show 0 ≤ n / 128 by omega), w64 (x := 128 + n / 128 % 128) (by omega), w64 (x := n / 128 / 128) (by omega), show (128 + n / 128 % 128) % 256 = n / 128 % 128 + 128 by omega]
      simp only [show (0 + 1 : Nat) < 140737488355328 by omega, if_true, List.cons_append, List.nil_append]
      apply Ev.step
      · intro k; rw [spec_PutNum.l0]
      simp only [if_neg (show ¬ n / 128 / 128 ≥ 128 by omega), List.length_cons, List.length_nil]
      exact Ev.const (by simp; omega)
theorem ev_spec_PutNum (x : Int) : Ev (fun k => spec_PutNum.f k x) (putNum x) := by
  unfold putNum
  simp only [spec_PutNum.f, spec_l01Number_eq, Option.bind_some]
  by_cases h : isNumB x = true
  · have hz := zig_range h
    have hb : -1000000 ≤ x ∧ x ≤ 1000000 := by simpa [isNumB] using h
    simp only [h, if_true]
    unfold zig at hz ⊢
    by_cases h0 : x < 0
    · simp only [h0, if_true] at hz ⊢
      apply Ev.step
      · intro k; rw [spec_PutNum.j0]
      simp only [w64 (x := -2 * x) (by omega), w64 (x := -2 * x - 1) (by omega)]
      exact ev_spec_PutNum_l0 _ (by omega)
    · simp only [h0, if_false] at hz ⊢
      apply Ev.step
      · intro k; rw [spec_PutNum.j0]
      simp only [w64 (x := 2 * x) (by omega)]
      exact ev_spec_PutNum_l0 _ (by omega)
  · simp only [h]
    exact Ev.now _

theorem ev_spec_l01Bytes_l0 (b : List Int) (hl : b.length ≤ 1099511627776) : ∀ (d i : Nat), i + d = b.length → Ev (fun k => spec_l01Bytes.l0 k b (b.take i) i) b := by
  intro d
  induction d with
  | zero =>
    intro i h
    obtain rfl : i = b.length := by omega
    apply Ev.step
    · intro k; rw [spec_l01Bytes.l0]
    simp only [if_neg (show ¬ ((b.length : Int) < b.length) by omega), List.take_length]
    exact Ev.now _
  | succ d ih =>
    intro i h
    have ih' := ih (i + 1) (by omega)
    apply Ev.step
    · intro k; rw [spec_l01Bytes.l0]
    simp only [if_pos (show (i : Int) < b.length by omega), if_pos (show (0 : Int) ≤ i by omega), w64 (x := (i : Int) + 1) (by omega), if_pos (show (b.take i).length < 140737488355328 by rw [List.length_take]; omega), take_rd b i (by omega)]
    exact ih'
theorem ev_spec_l01Bytes (b : List Int) (hl : b.length ≤ 1099511627776) : Ev (fun k => spec_l01Bytes.f k b) b := by
  have := ev_spec_l01Bytes_l0 b hl b.length 0 (by omega)
  simpa [spec_l01Bytes.f] using this

theorem ev_spec_l01Join_l0 (a b : List Int) (ha : a.length ≤ 1099511627776) (hl : b.length ≤ 1099511627776) : ∀ (d i : Nat), i + d = b.length → Ev (fun k => spec_l01Join.l0 k b (a ++ b.take i) i) (a ++ b) := by
  intro d
  induction d with
  | zero =>
    intro i h
    obtain rfl : i = b.length := by omega
    apply Ev.step
    · intro k; rw [spec_l01Join.l0]
    simp only [if_neg (show ¬ ((b.length : Int) < b.length) by omega), List.take_length]
    exact Ev.now _
  | succ d ih =>
    intro i h
    have ih' := ih (i + 1) (by omega)
    apply Ev.step
    · intro k; rw [spec_l01Join.l0]
    simp only [if_pos (show (i : Int) < b.length by omega), if_pos (show (0 : Int) ≤ i by omega), w64 (x := (i : Int) + 1) (by omega), if_pos (show (a ++ b.take i).length < 140737488355328 by rw [List.length_append, List.length_take]; omega), List.append_assoc, take_rd b i (by omega)]
    exact ih'
theorem ev_spec_l01Join (a b : List Int) (ha : a.length ≤ 1099511627776) (hl : b.length ≤ 1099511627776) : Ev (fun k => spec_l01Join.f k a b) (a ++ b) := by
  simp only [spec_l01Join.f]
  refine Ev.bind (ev_spec_l01Bytes a ha) ?_
  have := ev_spec_l01Join_l0 a b ha hl b.length 0 (by omega)
  simpa using this

theorem ev_spec_Frame (b : List Int) (hb : Bytes b) (hl : b.length ≤ 1048576) : Ev (fun k => spec_Frame.f k b) (frame b) := by
  simp only [spec_Frame.f, frame]
  have p1 := putNum_length (b.length : Int)
  have p2 := putNum_length (checkOf b)
  by_cases h : b.length ≤ 4000
  · simp only [if_neg (show ¬ (b.length : Int) > 4000 by omega), if_pos h]
    refine Ev.bind (ev_spec_PutNum _) ?_
    refine Ev.bind (ev_spec_l01Join _ _ (by simp) (by omega)) ?_
    refine Ev.bind (ev_spec_l01Join _ _ (by simp; omega) (by omega)) ?_
    refine Ev.bind (ev_spec_CheckOf b hb (by omega)) ?_
    refine Ev.bind (ev_spec_PutNum _) ?_
    refine Ev.bind (ev_spec_l01Join _ _ (by simp; omega) (by omega)) ?_
    exact Ev.const (by simp [frameB])
  · simp only [if_pos (show (b.length : Int) > 4000 by omega), if_neg h]
    exact Ev.now _

theorem ev_spec_WordOk_l0 (s : ByteArray) (hs : s.size ≤ 1099511627776) : ∀ (d i : Nat), i + d = s.size → (i = 0 → 97 ≤ bt s 0) → Ev (fun k => spec_WordOk.l0 k s i) (wordFrom s d i) := by
  intro d
  induction d with
  | zero =>
    intro i h _
    apply Ev.step
    · intro k; rw [spec_WordOk.l0]
    simp only [if_neg (show ¬ ((i : Int) < s.size) by omega)]
    exact Ev.now _
  | succ d ih =>
    intro i h h0
    have ih' := ih (i + 1) (by omega) (by omega)
    apply Ev.step
    · intro k; rw [spec_WordOk.l0]
    simp only [if_pos (show (i : Int) < s.size by omega), if_pos (show (0 : Int) ≤ i by omega), w64 (x := (i : Int) + 1) (by omega), wordFrom]
    have hi : i = 0 → 97 ≤ bt s i := by intro e; subst e; exact h0 rfl
    by_cases h1 : bt s i < 97
    · simp only [if_pos h1]
      have hp : 0 < i := by rcases Nat.eq_zero_or_pos i with e | e; · have := hi e; omega
                            · exact e
      by_cases h2 : bt s i < 48
      · simp only [if_pos h2, show okAt s i = false by simp [okAt]; omega, Bool.false_and]; exact Ev.now _
      · by_cases h3 : bt s i > 57
        · simp only [if_neg h2, if_pos h3, show okAt s i = false by simp [okAt]; omega, Bool.false_and]; exact Ev.now _
        · simp only [if_neg h2, if_neg h3, show okAt s i = true by simp [okAt]; omega, Bool.true_and]; exact ih'
    · simp only [if_neg h1]
      by_cases h2 : bt s i > 122
      · simp only [if_pos h2, if_neg (show ¬ bt s i < 48 by omega), if_pos (show bt s i > 57 by omega), show okAt s i = false by simp [okAt]; omega, Bool.false_and]; exact Ev.now _
      · simp only [if_neg h2, show okAt s i = true by simp [okAt]; omega, Bool.true_and]; exact ih'
theorem ev_spec_WordOk (s : ByteArray) (hs : s.size ≤ 1099511627776) : Ev (fun k => spec_WordOk.f k s) (wordOk s) := by
  simp only [spec_WordOk.f, spec_l01In_eq, Option.bind_some, decide_eq_true_eq, wordOk]
  by_cases h : 1 ≤ s.size ∧ s.size ≤ 12
  · simp only [if_pos (show 1 ≤ (s.size : Int) ∧ (s.size : Int) ≤ 12 by omega), if_pos (show (0 : Int) < s.size by omega), decide_eq_true h, Bool.true_and]
    apply Ev.step
    · intro k; rw [spec_WordOk.j0]
    simp only [decide_eq_true_eq]
    by_cases h1 : bt s 0 < 97
    · simp only [if_pos h1]
      obtain ⟨d, hd⟩ : ∃ d, s.size = d + 1 := ⟨s.size - 1, by omega⟩
      rw [hd, wordFrom, show okAt s 0 = false by simp [okAt]; omega, Bool.false_and]
      exact Ev.now _
    · simp only [if_neg h1]
      exact ev_spec_WordOk_l0 s hs s.size 0 (by omega) (by omega)
  · simp only [if_neg (show ¬ (1 ≤ (s.size : Int) ∧ (s.size : Int) ≤ 12) by omega), decide_eq_false h, Bool.false_and]
    apply Ev.step
    · intro k; rw [spec_WordOk.j0]
    simp only [if_true]
    exact Ev.now _

theorem ev_spec_PutWord (s : ByteArray) (hs : s.size ≤ 1099511627776) : Ev (fun k => spec_PutWord.f k s) (putWord s) := by
  simp only [spec_PutWord.f]
  refine Ev.bind (ev_spec_WordOk s hs) ?_
  unfold putWord
  refine Ev_ite (fun h => ?_) (fun h => ?_)
  · rw [if_pos h]
    refine Ev.bind (ev_spec_PutNum _) ?_
    simp only [if_pos (show s.size ≤ 9223372036854775807 by omega)]
    have := putNum_length (s.size : Int)
    exact ev_spec_l01Join _ _ (by omega) (by rw [bytesOf_length]; omega)
  · rw [if_neg h]; exact Ev.now _

theorem ev_spec_l01Less_l0 (a b : ByteArray) (ha : a.size ≤ 1099511627776) (hb : b.size ≤ 1099511627776) : ∀ (d i : Nat), i + d = a.size → Ev (fun k => spec_l01Less.l0 k a b i) (Op.bytesLess (a.toList.drop i) (b.toList.drop i)) := by
  intro d
  induction d with
  | zero =>
    intro i h
    apply Ev.step
    · intro k; rw [spec_l01Less.l0]
    simp only [if_neg (show ¬ ((i : Int) < a.size) by omega)]
    apply Ev.step
    · intro k; rw [spec_l01Less.j1]
    simp only [if_neg Bool.false_ne_true, toList_end a i (by omega)]
    refine Ev.const (congrArg some ?_)
    by_cases hb' : i < b.size
    · obtain ⟨y, e, _⟩ := toList_drop b i hb'
      rw [e, decide_eq_true (show (a.size : Int) < b.size by omega)]; rfl
    · rw [toList_end b i (by omega), decide_eq_false (show ¬ (a.size : Int) < b.size by omega)]; rfl
  | succ d ih =>
    intro i h
    have ih' := ih (i + 1) (by omega)
    obtain ⟨x, ex, hx⟩ := toList_drop a i (by omega)
    apply Ev.step
    · intro k; rw [spec_l01Less.l0]
    simp only [if_pos (show (i : Int) < a.size by omega)]
    by_cases hb' : i < b.size
    · obtain ⟨y, ey, hy⟩ := toList_drop b i hb'
      rw [ex, ey, bytesLess_cons hx hy]
      apply Ev.step
      · intro k; rw [spec_l01Less.j1]
      simp only [decide_eq_true (show (i : Int) < b.size by omega), if_true, if_pos (show (0 : Int) ≤ i by omega), if_pos (show (i : Int) < a.size by omega), if_pos (show (i : Int) < b.size by omega), w64 (x := (i : Int) + 1) (by omega)]
      by_cases he : bt a i = bt b i
      · simp only [if_pos he, decide_eq_true he, decide_eq_false (show ¬ bt a i < bt b i by omega), Bool.false_or, Bool.true_and]
        simpa using ih'
      · simp only [if_neg he, decide_eq_false he, Bool.false_and, Bool.or_false]
        exact Ev.now _
    · rw [toList_end b i (by omega)]
      apply Ev.step
      · intro k; rw [spec_l01Less.j1]
      simp only [decide_eq_false (show ¬ (i : Int) < b.size by omega), if_neg Bool.false_ne_true]
      refine Ev.const (congrArg some ?_)
      rw [ex, decide_eq_false (show ¬ (a.size : Int) < b.size by omega)]; rfl
theorem ev_spec_l01Less (a b : ByteArray) (ha : a.size ≤ 1099511627776) (hb : b.size ≤ 1099511627776) : Ev (fun k => spec_l01Less.f k a b) (Op.bytesLess a.toList b.toList) := by
  simpa [spec_l01Less.f] using ev_spec_l01Less_l0 a b ha hb a.size 0 (by omega)

theorem ev_spec_SchemaOk_l0 (s : List S42) (hl : s.length ≤ 1099511627776) (hs : ∀ x ∈ s, x.f0.size ≤ 1048576) : ∀ (d i : Nat), i + d = s.length → Ev (fun k => spec_SchemaOk.l0 k s i) (schFrom s d i) := by
  intro d
  induction d with
  | zero =>
    intro i h
    apply Ev.step
    · intro k; rw [spec_SchemaOk.l0]
    simp only [if_neg (show ¬ ((i : Int) < s.length) by omega)]
    exact Ev.now _
  | succ d ih =>
    intro i h
    have ih' := ih (i + 1) (by omega)
    have hm := hs _ (rdT_mem (show i < s.length by omega))
    apply Ev.step
    · intro k; rw [spec_SchemaOk.l0]
    simp only [if_pos (show (i : Int) < s.length by omega), if_pos (show (0 : Int) ≤ i by omega), w64 (x := (i : Int) + 1) (by omega), schFrom, schAt]
    refine Ev.bind (ev_spec_WordOk _ (by omega)) ?_
    by_cases h1 : wordOk (rd_T42 s i).f0 = true
    · simp only [h1, if_true, spec_l01In_eq, Option.bind_some, Bool.true_and]
      by_cases h2 : 1 ≤ (rd_T42 s i).f1 ∧ (rd_T42 s i).f1 ≤ 6
      · simp only [decide_eq_true h2, if_true, Bool.true_and]
        by_cases h3 : (i : Int) > 0
        · have hm2 := hs _ (rdT_mem (show i - 1 < s.length by omega))
          rw [show ((i - 1 : Nat) : Int) = (i : Int) - 1 by omega] at hm2
          simp only [if_pos h3, w64 (x := (i : Int) - 1) (by omega), if_pos (show (0 : Int) ≤ (i : Int) - 1 by omega), if_pos (show (i : Int) - 1 < s.length by omega), decide_eq_false (show ¬ i = 0 by omega), Bool.false_or]
          refine Ev.bind (ev_spec_l01Less _ _ (by omega) (by omega)) ?_
          by_cases h4 : Op.bytesLess (rd_T42 s ((i : Int) - 1)).f0.toList (rd_T42 s i).f0.toList = true
          · simp only [h4, if_true, Bool.true_and]; simpa using ih'
          · simp only [if_neg h4, Bool.eq_false_iff.mpr h4, Bool.false_and]; exact Ev.now _
        · simp only [if_neg h3, decide_eq_true (show i = 0 by omega), Bool.true_or, Bool.true_and]; simpa using ih'
      · simp only [decide_eq_false h2, if_neg Bool.false_ne_true, Bool.false_and]; exact Ev.now _
    · simp only [if_neg h1, Bool.eq_false_iff.mpr h1, Bool.false_and]; exact Ev.now _
theorem ev_spec_SchemaOk (s : List S42) (hl : s.length ≤ 1099511627776) (hs : ∀ x ∈ s, x.f0.size ≤ 1048576) : Ev (fun k => spec_SchemaOk.f k s) (schemaOk s) := by
  simp only [spec_SchemaOk.f, schemaOk]
  by_cases h : s.length ≤ 8
  · simp only [if_neg (show ¬ (s.length : Int) > 8 by omega), decide_eq_true h, Bool.true_and]
    exact ev_spec_SchemaOk_l0 s hl hs s.length 0 (by omega)
  · simp only [if_pos (show (s.length : Int) > 8 by omega), decide_eq_false h, Bool.false_and]
    exact Ev.now _

theorem ev_spec_EncodeSchema_l0 (s : List S42) (hl : s.length ≤ 8) (hs : ∀ x ∈ s, x.f0.size ≤ 1048576) : ∀ (d i : Nat) (acc : List Int), i + d = s.length → acc.length ≤ 3 + 18 * i → Bytes acc → Ev (fun k => spec_EncodeSchema.l0 k s acc i) (frame (acc ++ encTabs (s.drop i))) := by
  intro d
  induction d with
  | zero =>
    intro i acc h ha hb
    apply Ev.step
    · intro k; rw [spec_EncodeSchema.l0]
    simp only [if_neg (show ¬ ((i : Int) < s.length) by omega)]
    rw [List.drop_eq_nil_of_le (by omega), encTabs, List.append_nil]
    refine Ev.bind (ev_spec_Frame acc hb (by omega)) ?_
    exact Ev.now _
  | succ d ih =>
    intro i acc h ha hb
    have hm := hs _ (rdT_mem (show i < s.length by omega))
    have pw := putWord_len (rd_T42 s i).f0
    have pn := putNum_length (rd_T42 s i).f1
    have ih' := ih (i + 1) (acc ++ putWord (rd_T42 s i).f0 ++ putNum (rd_T42 s i).f1) (by omega) (by simp; omega) (Bytes_app (Bytes_app hb (Bytes_putWord _)) (Bytes_put _))
    apply Ev.step
    · intro k; rw [spec_EncodeSchema.l0]
    simp only [if_pos (show (i : Int) < s.length by omega), if_pos (show (0 : Int) ≤ i by omega), w64 (x := (i : Int) + 1) (by omega)]
    refine Ev.bind (ev_spec_PutWord _ (by omega)) ?_
    refine Ev.bind (ev_spec_l01Join _ _ (by omega) (by omega)) ?_
    refine Ev.bind (ev_spec_PutNum _) ?_
    refine Ev.bind (ev_spec_l01Join _ _ (by simp; omega) (by omega)) ?_
    rw [drop_rdTab s i (by omega), encTabs]
    simpa using ih'
theorem ev_spec_EncodeSchema (s : List S42) (hl : s.length ≤ 1048576) (hs : ∀ x ∈ s, x.f0.size ≤ 1048576) : Ev (fun k => spec_EncodeSchema.f k s) (encSchema s) := by
  simp only [spec_EncodeSchema.f]
  refine Ev.bind (ev_spec_SchemaOk s (by omega) hs) ?_
  unfold encSchema
  refine Ev_ite (fun h => ?_) (fun h => ?_)
  · rw [if_pos h]
    refine Ev.bind (ev_spec_PutNum _) ?_
    have := putNum_length (s.length : Int)
    simpa using ev_spec_EncodeSchema_l0 s (schemaOk_len h) hs s.length 0 (putNum s.length) (by omega) (by omega) (Bytes_put _)
  · rw [if_neg h]; exact Ev.now _

theorem holds : ∀ (l0 : List (S53)), (l0.length ≤ 9223372036854775807 ∧ ∀ yl0 ∈ l0, Ok53 yl0) → ∃ k, laws_FnExactEncodeSchema.Facts k l0 := by
  intro l hl
  obtain ⟨q, he, g1, g2, g3⟩ := ev_laws_szTableS l 1048576 (by omega) (by omega) hl.1 (fun x hx => (hl.2 x hx).1)
  by_cases hq : q < 0
  · obtain ⟨k, hk⟩ := he.rounds
    exact ⟨k, .inl ⟨q, hk, hq⟩⟩
  have hS := g3 (by omega)
  have hS1 := hS.1
  have hto := ev_laws_toTableS l hS
  have hb : ∀ x ∈ l.map cvTable, x.f0.size ≤ 1048576 := by
    intro x hx
    obtain ⟨y, hy, rfl⟩ := List.mem_map.1 hx
    exact hS.2 y hy
  have hlen : (l.map cvTable).length = l.length := List.length_map _
  generalize l.map cvTable = s at *
  have hel := encSchema_length s
  obtain ⟨L, hL, hm, hh⟩ := ev_byteS (encSchema s).1 1 (by omega) (by omega)
  obtain ⟨k1, e1⟩ := he
  obtain ⟨k2, e2⟩ := hto
  obtain ⟨k3, e3⟩ := ev_spec_EncodeSchema s (by omega) hb
  obtain ⟨k4, e4⟩ := ev_impl_EncodeSchema s (by omega) hb
  obtain ⟨k5, e5⟩ := ev_eqByteS (encSchema s).1 (by omega)
  obtain ⟨k6, e6⟩ := ev_laws_eqTableS s (by omega) (fun _ _ => trivial)
  obtain ⟨k7, e7⟩ := ev_markTableS s (by omega)
  obtain ⟨k8, e8⟩ := hm
  obtain ⟨k9, e9⟩ := hh
  let k := k1 + k2 + k3 + k4 + k5 + k6 + k7 + k8 + k9
  exact ⟨k, .inr ⟨q, s, (encSchema s).1, (encSchema s).2, _, _, _, L, e1 k (by omega), hq, e2 k (by omega), e3 k (by omega), e4 k (by omega), e5 k (by omega), e6 k (by omega), e7 k (by omega), by omega, e8 k (by omega), e9 k (by omega), by omega⟩⟩

end EFnExactEncodeSchema
open Go.RowKit Go.Proofs.YtlkgppihnolcmaaW.PrintWords Go.Proofs.YtlkgppihnolcmaaW.PrintLast Go.Proofs.YtlkgppihnolcmaaW.PrintMore Go.Proofs.Ytlkgppihnolcmaa.Lib Go.Proofs.Ytlkgppihnolcmaa.Q
theorem FnExactEncodeSchema : ∀ (l0 : List (S53)), (l0.length ≤ 9223372036854775807 ∧ ∀ yl0 ∈ l0, Ok53 yl0) → ∃ k, laws_FnExactEncodeSchema.Facts k l0 := EFnExactEncodeSchema.holds
end Go.Proofs.Ytlkgppihnolcmaa.Pure
