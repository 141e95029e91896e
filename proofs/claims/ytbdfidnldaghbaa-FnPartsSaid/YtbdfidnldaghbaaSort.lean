/- slices.Sort and slices.Compact at []string: the library's contracts at this program, told of rows of a call's own. Written by a program of this session. -/
import Derived.Test.YtbdfidnldaghbaaProg
import Derived.Test.YtbdfidnldaghbaaWMore
import Derived.Shelf.Sort.Plain
import Derived.Shelf.Slices.CompactS
import Derived.Shelf.Slices.In.SortNone
import Derived.Sort.OwnSorted
import Derived.Lib.OwnBridge
set_option linter.unusedVariables false
set_option linter.unusedSimpArgs false
namespace Go.Proofs.Ytbdfidnldaghbaa.Q
open Go Go.RowKit Go.Sort Go.Shelf Go.Proofs.YtbdfidnldaghbaaW.PrintWords Go.Proofs.YtbdfidnldaghbaaW.PrintLast Go.Proofs.YtbdfidnldaghbaaW.PrintMore
def layn190_ren : Go.Shelf.Ren := ⟨fun | 190 => 93 | 125 => 98 | 258 => 120 | 128 => 129 | 129 => 130 | 302 => 134 | 303 => 135 | 304 => 136 | 305 => 137 | 306 => 138 | 307 => 139 | 308 => 140 | 309 => 141 | 310 => 142 | 333 => 149 | 329 => 144 | 330 => 145 | 334 => 150 | 335 => 151 | 336 => 152 | 344 => 155 | n => n, fun | 31 => 59 | 9 => 9 | 3 => 3 | 46 => 93 | 0 => 0 | 51 => 116 | 53 => 118 | 4 => 4 | 183 => 109 | 182 => 108 | 131 => 113 | 5 => 5 | 218 => 128 | 222 => 132 | 228 => 137 | 229 => 71 | n => n, fun n => n⟩
theorem layn190 : Lays.n190 Try.prog layn190_ren := { mixed := by kernel_rfl, f125 := Try.func98.trans (congrArg some (by kernel_rfl)), f128 := Try.func129.trans (congrArg some (by kernel_rfl)), f129 := Try.func130.trans (congrArg some (by kernel_rfl)), f190 := Try.func93.trans (congrArg some (by kernel_rfl)), f258 := Try.func120.trans (congrArg some (by kernel_rfl)), f302 := Try.func134.trans (congrArg some (by kernel_rfl)), f303 := Try.func135.trans (congrArg some (by kernel_rfl)), f304 := Try.func136.trans (congrArg some (by kernel_rfl)), f305 := Try.func137.trans (congrArg some (by kernel_rfl)), f306 := Try.func138.trans (congrArg some (by kernel_rfl)), f307 := Try.func139.trans (congrArg some (by kernel_rfl)), f308 := Try.func140.trans (congrArg some (by kernel_rfl)), f309 := Try.func141.trans (congrArg some (by kernel_rfl)), f310 := Try.func142.trans (congrArg some (by kernel_rfl)), f329 := Try.func144.trans (congrArg some (by kernel_rfl)), f330 := Try.func145.trans (congrArg some (by kernel_rfl)), f333 := Try.func149.trans (congrArg some (by kernel_rfl)), f334 := Try.func150.trans (congrArg some (by kernel_rfl)), f335 := Try.func151.trans (congrArg some (by kernel_rfl)), f336 := Try.func152.trans (congrArg some (by kernel_rfl)), f344 := Try.func155.trans (congrArg some (by kernel_rfl)), t0 := Try.underlying0, a0 := Try.isAgg0, z0 := Try.sizeOf0, v0 := Try.zeroValue0, t3 := Try.underlying3, a3 := Try.isAgg3, z3 := Try.sizeOf3, v3 := Try.zeroValue3, t4 := Try.underlying4, a4 := Try.isAgg4, z4 := Try.sizeOf4, v4 := Try.zeroValue4, t5 := Try.underlying5, a5 := Try.isAgg5, z5 := Try.sizeOf5, v5 := Try.zeroValue5, t9 := Try.underlying9, a9 := Try.isAgg9, z9 := Try.sizeOf9, v9 := Try.zeroValue9, t31 := Try.underlying59, a31 := Try.isAgg59, z31 := Try.sizeOf59, v31 := Try.zeroValue59, t46 := Try.underlying93, a46 := Try.isAgg93, z46 := Try.sizeOf93, v46 := Try.zeroValue93, t51 := Try.underlying116, a51 := Try.isAgg116, z51 := Try.sizeOf116, v51 := Try.zeroValue116, t53 := Try.underlying118, a53 := Try.isAgg118, z53 := Try.sizeOf118, v53 := Try.zeroValue118, t131 := Try.underlying113, a131 := Try.isAgg113, z131 := Try.sizeOf113, v131 := Try.zeroValue113, t182 := Try.underlying108, a182 := Try.isAgg108, z182 := Try.sizeOf108, v182 := Try.zeroValue108, t183 := Try.underlying109, a183 := Try.isAgg109, z183 := Try.sizeOf109, v183 := Try.zeroValue109, t218 := Try.underlying128, a218 := Try.isAgg128, z218 := Try.sizeOf128, v218 := Try.zeroValue128, t222 := Try.underlying132, a222 := Try.isAgg132, z222 := Try.sizeOf132, v222 := Try.zeroValue132, t228 := Try.underlying137, a228 := Try.isAgg137, z228 := Try.sizeOf137, v228 := Try.zeroValue137, t229 := Try.underlying71, a229 := Try.isAgg71, z229 := Try.sizeOf71, v229 := Try.zeroValue71 }
def layn194_ren : Go.Shelf.Ren := ⟨fun | 194 => 94 | n => n, fun | 31 => 59 | 9 => 9 | 3 => 3 | 4 => 4 | 0 => 0 | n => n, fun n => n⟩
theorem layn194 : Lays.n194 Try.prog layn194_ren := { mixed := by kernel_rfl, f194 := Try.func94.trans (congrArg some (by kernel_rfl)), t0 := Try.underlying0, a0 := Try.isAgg0, z0 := Try.sizeOf0, v0 := Try.zeroValue0, t3 := Try.underlying3, a3 := Try.isAgg3, z3 := Try.sizeOf3, v3 := Try.zeroValue3, t4 := Try.underlying4, a4 := Try.isAgg4, z4 := Try.sizeOf4, v4 := Try.zeroValue4, t9 := Try.underlying9, a9 := Try.isAgg9, z9 := Try.sizeOf9, v9 := Try.zeroValue9, t31 := Try.underlying59, a31 := Try.isAgg59, z31 := Try.sizeOf59, v31 := Try.zeroValue59 }
def bytesOf (b : ByteArray) : List UInt8 := b.data.toList
def strOf (l : List UInt8) : ByteArray := ⟨l.toArray⟩
theorem str_bytes (b : ByteArray) : strOf (bytesOf b) = b := by unfold strOf bytesOf; simp
def sortB (xs : List ByteArray) : List ByteArray := ((xs.map bytesOf).mergeSort fun x y => decide (x ≤ y)).map strOf
def compactB (xs : List ByteArray) : List ByteArray := (Lib.compact (xs.map bytesOf)).map strOf
theorem encs_str (xs : List ByteArray) : encs Value.string xs = (xs.map bytesOf).map encStr := by
  induction xs with
  | nil => rfl
  | cons x xs ih =>
    have h : encStr (bytesOf x) = Value.string x := by unfold encStr bytesOf; simp
    simpa [encs, h] using ih
theorem encs_of (l : List (List UInt8)) : encs Value.string (l.map strOf) = l.map encStr := by
  induction l with
  | nil => rfl
  | cons x xs ih => simp [encs, strOf, encStr]
theorem sortB_length (xs : List ByteArray) : (sortB xs).length = xs.length := by simp [sortB]
theorem sort_row (w w1 : World) (v : Value) (xs : List ByteArray) (HO : Kd.R Kd.string 9 w1 w.heap.size (fun _ => True) v xs) (HB : Below w.heap.size w w1) (hl : xs.length ≤ 1099511627776) :
    Calls Try.prog 93 #[v] w1 fun e w' => e = .returned (.tuple #[]) ∧ Kd.R Kd.string 9 w' w.heap.size (fun _ => True) v (sortB xs) ∧ Below w.heap.size w w' := by
  have hown := Kd.own_of_R HO
  rw [encs_str] at hown
  by_cases hv : v = .slice none 0 0
  · subst hv
    have hn : xs = [] := by
      obtain ⟨A, c, e, _⟩ := Kd.R_reads HO
      injection e with _ e2 _
      exact List.length_eq_zero_iff.1 e2.symm
    subst hn
    refine (Any.slices_Sort_string_none layn190 none 0 w1).mono ?_
    rintro e w' ⟨rfl, rfl⟩
    exact ⟨rfl, by simpa [sortB] using HO, HB⟩
  · obtain ⟨g, cap, rfl, hbg, hgl, hncap, hcm, hlen, hH⟩ := Lib.holds_of_ownsRow hown hv
    have h := Any.slices_Sort_string layn190 g 0 cap (xs.map bytesOf) w1 hH hgl (by rw [List.length_map]; omega)
    rw [List.length_map] at h
    refine h.mono ?_
    rintro e w' ⟨rfl, nn, os, rfl⟩
    rcases hown.2 with ⟨h0, _⟩ | ⟨g', cap', cur, hv', hbase, hb, h1, h2, h3, h4⟩
    · exact absurd h0 hv
    cases hv'
    have hs := ownsRow_sorted (n := nn) (os := os) (ss := xs.map bytesOf) (ts := (xs.map bytesOf).mergeSort fun x y => decide (x ≤ y)) (by rw [List.length_mergeSort]) hbase hb (by rw [List.length_map]; exact h1) h2 h3
    refine ⟨rfl, Kd.R_of_own ?_ (fun _ _ => trivial), HB.grown (grownBy_sorted _) HB.size (fun j hj => by cases hj; exact hbase)⟩
    rw [sortB, encs_of]
    simpa using hs
theorem compact_row (w w1 : World) (v : Value) (xs : List ByteArray) (HO : Kd.R Kd.string 9 w1 w.heap.size (fun _ => True) v xs) (HB : Below w.heap.size w w1) (hl : xs.length ≤ 1099511627776) :
    Calls Try.prog 94 #[v] w1 fun e w' => ∃ v0_ : Value, e = .returned v0_ ∧ Kd.R Kd.string 9 w' w.heap.size (fun _ => True) v0_ (compactB xs) ∧ Below w.heap.size w w' := by
  have hown := Kd.own_of_R HO
  rw [encs_str] at hown
  by_cases hv : v = .slice none 0 0
  · subst hv
    have hn : xs = [] := by
      obtain ⟨A, c, e, _⟩ := Kd.R_reads HO
      injection e with _ e2 _
      exact List.length_eq_zero_iff.1 e2.symm
    subst hn
    refine (Any.slices_Compact_string_empty layn194 none 0 w1).mono ?_
    rintro e w' ⟨rfl, rfl⟩
    exact ⟨_, rfl, by simpa [compactB, Lib.compact, Lib.compactUpTo] using HO, HB⟩
  · obtain ⟨g, cap, rfl, hbg, hgl, hncap, hcm, hlen, hH⟩ := Lib.holds_of_ownsRow hown hv
    have h := Any.slices_Compact_string layn194 g 0 cap (xs.map bytesOf) w1 hH (by rw [List.length_map]; omega) (by rw [List.length_map]; omega)
    rw [List.length_map] at h
    refine h.mono ?_
    rintro e w' ⟨rfl, q, rfl⟩
    have hle := Lib.compact_length_le (xs.map bytesOf)
    rw [List.length_map] at hle
    have hc := Lib.ownsRow_putRow (q := q) (k := (Lib.compact (xs.map bytesOf)).length) (ys := Lib.compact (xs.map bytesOf) ++ List.replicate (xs.length - (Lib.compact (xs.map bytesOf)).length) []) hown (by rw [List.length_append, List.length_replicate]; omega) hle
    rw [List.take_left] at hc
    refine ⟨_, rfl, Kd.R_of_own ?_ (fun _ _ => trivial), Lib.below_putRow HB hbg⟩
    rw [compactB, encs_of]
    simpa using hc
end Go.Proofs.Ytbdfidnldaghbaa.Q
