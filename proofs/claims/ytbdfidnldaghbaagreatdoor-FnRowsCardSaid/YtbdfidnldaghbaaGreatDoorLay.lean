/- What this seat's functions take out of Go's library (strconv.Itoa and what stands beside it): the library's contracts at this program, told of the print's rows. Written by a program of this session. -/
import Derived.Test.YtbdfidnldaghbaaGreatDoorProg
import Derived.Test.YtbdfidnldaghbaaGreatDoorOwn
import Derived.Shelf.Strconv.Itoa3
import Derived.Lib.LaidTab
import Derived.Lib.SmallJoins
import Derived.Lib.AppendIntMem
import Derived.Lib.ItoaLen
import Derived.Lib.LaidU8
import Derived.LaidLaws
import Derived.MakeChecks
import Derived.Deep.DeepHandedRow
import Derived.Lay
import Derived.Shelf.Strconv.ErrVarAll
import Derived.Shelf.Strconv.AtoiAll
import Derived.Shelf.Strings.SplitShaped
import Derived.Shelf.Strings.Shaped
import Derived.Room.Shelf.Join48
set_option linter.unusedVariables false
set_option linter.unusedSimpArgs false
namespace Go.Proofs.YtbdfidnldaghbaaGreatDoor.Lay
open Go Go.RowKit Go.Shelf Go.Proofs.YtbdfidnldaghbaaGreatDoorW.PrintWords Go.Proofs.YtbdfidnldaghbaaGreatDoorW.PrintLast Go.Proofs.YtbdfidnldaghbaaGreatDoorW.PrintMore
def layItoa_ren : Go.Shelf.Ren := ⟨fun | 171 => 42 | 243 => 62 | 246 => 79 | 283 => 91 | 284 => 92 | 285 => 93 | 286 => 94 | 129 => 55 | 317 => 99 | 318 => 100 | 319 => 101 | 320 => 102 | 337 => 103 | 338 => 104 | n => n, fun | 3 => 3 | 9 => 9 | 2 => 2 | 4 => 4 | 171 => 115 | 0 => 0 | 53 => 80 | 37 => 22 | 5 => 5 | 173 => 117 | 212 => 131 | 51 => 78 | 20 => 20 | 213 => 132 | 46 => 57 | 232 => 133 | 233 => 134 | n => n, fun | 17 => 5 | 18 => 6 | 19 => 7 | n => n⟩
set_option maxRecDepth 100000 in
theorem layItoa : LaysM.n171 Tryz.prog layItoa_ren := { mixed := by kernel_rfl, f129 := Tryz.func55.trans (congrArg some (by kernel_rfl)), f171 := Tryz.func42.trans (congrArg some (by kernel_rfl)), f243 := Tryz.func62.trans (congrArg some (by kernel_rfl)), f246 := Tryz.func79.trans (congrArg some (by kernel_rfl)), f283 := Tryz.func91.trans (congrArg some (by kernel_rfl)), f284 := Tryz.func92.trans (congrArg some (by kernel_rfl)), f285 := Tryz.func93.trans (congrArg some (by kernel_rfl)), f286 := Tryz.func94.trans (congrArg some (by kernel_rfl)), f317 := Tryz.func99.trans (congrArg some (by kernel_rfl)), f318 := Tryz.func100.trans (congrArg some (by kernel_rfl)), f319 := Tryz.func101.trans (congrArg some (by kernel_rfl)), f320 := Tryz.func102.trans (congrArg some (by kernel_rfl)), f337 := Tryz.func103.trans (congrArg some (by kernel_rfl)), f338 := Tryz.func104.trans (congrArg some (by kernel_rfl)), t0 := Tryz.underlying0, a0 := Tryz.isAgg0, z0 := Tryz.sizeOf0, v0 := Tryz.zeroValue0, t2 := Tryz.underlying2, a2 := Tryz.isAgg2, z2 := Tryz.sizeOf2, v2 := Tryz.zeroValue2, t3 := Tryz.underlying3, a3 := Tryz.isAgg3, z3 := Tryz.sizeOf3, v3 := Tryz.zeroValue3, t4 := Tryz.underlying4, a4 := Tryz.isAgg4, z4 := Tryz.sizeOf4, v4 := Tryz.zeroValue4, t5 := Tryz.underlying5, a5 := Tryz.isAgg5, z5 := Tryz.sizeOf5, v5 := Tryz.zeroValue5, t9 := Tryz.underlying9, a9 := Tryz.isAgg9, z9 := Tryz.sizeOf9, v9 := Tryz.zeroValue9, t20 := Tryz.underlying20, a20 := Tryz.isAgg20, z20 := Tryz.sizeOf20, v20 := Tryz.zeroValue20, t37 := Tryz.underlying22, a37 := Tryz.isAgg22, z37 := Tryz.sizeOf22, v37 := Tryz.zeroValue22, t46 := Tryz.underlying57, a46 := Tryz.isAgg57, z46 := Tryz.sizeOf57, v46 := Tryz.zeroValue57, t51 := Tryz.underlying78, a51 := Tryz.isAgg78, z51 := Tryz.sizeOf78, v51 := Tryz.zeroValue78, t53 := Tryz.underlying80, a53 := Tryz.isAgg80, z53 := Tryz.sizeOf80, v53 := Tryz.zeroValue80, t171 := Tryz.underlying115, a171 := Tryz.isAgg115, z171 := Tryz.sizeOf115, v171 := Tryz.zeroValue115, t173 := Tryz.underlying117, a173 := Tryz.isAgg117, z173 := Tryz.sizeOf117, v173 := Tryz.zeroValue117, t212 := Tryz.underlying131, a212 := Tryz.isAgg131, z212 := Tryz.sizeOf131, v212 := Tryz.zeroValue131, t213 := Tryz.underlying132, a213 := Tryz.isAgg132, z213 := Tryz.sizeOf132, t232 := Tryz.underlying133, a232 := Tryz.isAgg133, z232 := Tryz.sizeOf133, v232 := Tryz.zeroValue133, t233 := Tryz.underlying134, a233 := Tryz.isAgg134, z233 := Tryz.sizeOf134, v233 := Tryz.zeroValue134, g17 := by kernel_rfl, g18 := by kernel_rfl, g19 := by kernel_rfl, i0 := by kernel_rfl, i2 := by kernel_rfl, i3 := by kernel_rfl, i4 := by kernel_rfl, i5 := by kernel_rfl, i9 := by kernel_rfl, i20 := by kernel_rfl, i37 := by kernel_rfl, i46 := by kernel_rfl, i51 := by kernel_rfl, i53 := by kernel_rfl, i171 := by kernel_rfl, i173 := by kernel_rfl, i212 := by kernel_rfl, i232 := by kernel_rfl, i233 := by kernel_rfl, m17 := by kernel_rfl, m18 := by kernel_rfl, m19 := by kernel_rfl }
/-- What the row's list gives of the world: the table of the powers of ten. -/
structure Tab (w : World) : Prop where
  t10 : Lib.TabIs Tryz.prog w "internal/strconv.uint64pow10" .u64 Lib.pow10Tab
theorem Tab.below {w w' : World} (h : Tab w) (hb : Below w.heap.size w w') : Tab w' := ⟨Go.Joins.var_stays layItoa.m17 h.t10 hb (Nat.le_refl _)⟩
theorem Tab.drewN {w : World} (h : Tab w) (n : Nat) : Tab (w.drewN n) := h.below (pw_below_drewN (Below.refl _ _) n)
theorem itoa_call (a0 : Int) (h0 : -9223372036854775808 ≤ a0) (h1 : a0 ≤ 9223372036854775807) (w : World) (HT : Tab w) :
    Calls Tryz.prog 42 #[.int .i64 a0] w fun e w' => e = .returned (.string ⟨(Lib.itoa a0).toArray⟩) ∧ Below w.heap.size w w' := by
  refine (Any.strconv_Itoa layItoa a0 h0 h1 w HT.t10).mono ?_
  rintro e w' ⟨rfl, k, os, rfl⟩
  exact ⟨rfl, Lib.below_grow _ w (Nat.le_refl _) k os⟩
def layAtoi_ren : Go.Shelf.Ren := ⟨fun | 172 => 40 | 244 => 60 | 245 => 61 | 247 => 74 | 279 => 75 | 280 => 76 | 281 => 77 | 282 => 78 | 287 => 88 | 316 => 89 | 171 => 42 | 205 => 90 | 321 => 97 | 322 => 98 | 243 => 62 | 246 => 79 | 283 => 91 | 284 => 92 | 285 => 93 | 286 => 94 | 129 => 55 | 317 => 99 | 318 => 100 | 319 => 101 | 320 => 102 | 337 => 103 | 338 => 104 | n => n, fun | 9 => 9 | 3 => 3 | 75 => 61 | 76 => 62 | 4 => 4 | 5 => 5 | 167 => 95 | 37 => 22 | 0 => 0 | 85 => 96 | 2 => 2 | 168 => 98 | 53 => 80 | 175 => 109 | 46 => 57 | 210 => 113 | 127 => 84 | 145 => 129 | 143 => 127 | 21 => 21 | 171 => 115 | 173 => 117 | 212 => 131 | 51 => 78 | 20 => 20 | 213 => 132 | 232 => 133 | 233 => 134 | 80 => 69 | n => n, fun | 15 => 1 | 16 => 2 | 17 => 5 | 18 => 6 | 19 => 7 | n => n⟩
set_option maxRecDepth 100000 in
theorem layAtoi : LaysC.n172 Tryz.prog layAtoi_ren := { mixed := by kernel_rfl, f129 := Tryz.func55.trans (congrArg some (by kernel_rfl)), f171 := Tryz.func42.trans (congrArg some (by kernel_rfl)), f172 := Tryz.func40.trans (congrArg some (by kernel_rfl)), f205 := Tryz.func90.trans (congrArg some (by kernel_rfl)), f243 := Tryz.func62.trans (congrArg some (by kernel_rfl)), f244 := Tryz.func60.trans (congrArg some (by kernel_rfl)), f245 := Tryz.func61.trans (congrArg some (by kernel_rfl)), f246 := Tryz.func79.trans (congrArg some (by kernel_rfl)), f247 := Tryz.func74.trans (congrArg some (by kernel_rfl)), f279 := Tryz.func75.trans (congrArg some (by kernel_rfl)), f280 := Tryz.func76.trans (congrArg some (by kernel_rfl)), f281 := Tryz.func77.trans (congrArg some (by kernel_rfl)), f282 := Tryz.func78.trans (congrArg some (by kernel_rfl)), f283 := Tryz.func91.trans (congrArg some (by kernel_rfl)), f284 := Tryz.func92.trans (congrArg some (by kernel_rfl)), f285 := Tryz.func93.trans (congrArg some (by kernel_rfl)), f286 := Tryz.func94.trans (congrArg some (by kernel_rfl)), f287 := Tryz.func88.trans (congrArg some (by kernel_rfl)), f316 := Tryz.func89.trans (congrArg some (by kernel_rfl)), f317 := Tryz.func99.trans (congrArg some (by kernel_rfl)), f318 := Tryz.func100.trans (congrArg some (by kernel_rfl)), f319 := Tryz.func101.trans (congrArg some (by kernel_rfl)), f320 := Tryz.func102.trans (congrArg some (by kernel_rfl)), f321 := Tryz.func97.trans (congrArg some (by kernel_rfl)), f322 := Tryz.func98.trans (congrArg some (by kernel_rfl)), f337 := Tryz.func103.trans (congrArg some (by kernel_rfl)), f338 := Tryz.func104.trans (congrArg some (by kernel_rfl)), t0 := Tryz.underlying0, a0 := Tryz.isAgg0, z0 := Tryz.sizeOf0, v0 := Tryz.zeroValue0, t2 := Tryz.underlying2, a2 := Tryz.isAgg2, z2 := Tryz.sizeOf2, v2 := Tryz.zeroValue2, t3 := Tryz.underlying3, a3 := Tryz.isAgg3, z3 := Tryz.sizeOf3, v3 := Tryz.zeroValue3, t4 := Tryz.underlying4, a4 := Tryz.isAgg4, z4 := Tryz.sizeOf4, v4 := Tryz.zeroValue4, t5 := Tryz.underlying5, a5 := Tryz.isAgg5, z5 := Tryz.sizeOf5, v5 := Tryz.zeroValue5, t9 := Tryz.underlying9, a9 := Tryz.isAgg9, z9 := Tryz.sizeOf9, v9 := Tryz.zeroValue9, t20 := Tryz.underlying20, a20 := Tryz.isAgg20, z20 := Tryz.sizeOf20, v20 := Tryz.zeroValue20, t21 := Tryz.underlying21, a21 := Tryz.isAgg21, z21 := Tryz.sizeOf21, v21 := Tryz.zeroValue21, t37 := Tryz.underlying22, a37 := Tryz.isAgg22, z37 := Tryz.sizeOf22, v37 := Tryz.zeroValue22, t46 := Tryz.underlying57, a46 := Tryz.isAgg57, z46 := Tryz.sizeOf57, v46 := Tryz.zeroValue57, t51 := Tryz.underlying78, a51 := Tryz.isAgg78, z51 := Tryz.sizeOf78, v51 := Tryz.zeroValue78, t53 := Tryz.underlying80, a53 := Tryz.isAgg80, z53 := Tryz.sizeOf80, v53 := Tryz.zeroValue80, t75 := Tryz.underlying61, a75 := Tryz.isAgg61, z75 := Tryz.sizeOf61, v75 := Tryz.zeroValue61, t76 := Tryz.underlying62, a76 := Tryz.isAgg62, z76 := Tryz.sizeOf62, v76 := Tryz.zeroValue62, t85 := Tryz.underlying96, a85 := Tryz.isAgg96, z85 := Tryz.sizeOf96, v85 := Tryz.zeroValue96, t127 := Tryz.underlying84, a127 := Tryz.isAgg84, z127 := Tryz.sizeOf84, v127 := Tryz.zeroValue84, t143 := Tryz.underlying127, a143 := Tryz.isAgg127, z143 := Tryz.sizeOf127, v143 := Tryz.zeroValue127, t145 := Tryz.underlying129, a145 := Tryz.isAgg129, z145 := Tryz.sizeOf129, v145 := Tryz.zeroValue129, t167 := Tryz.underlying95, a167 := Tryz.isAgg95, z167 := Tryz.sizeOf95, v167 := Tryz.zeroValue95, t168 := Tryz.underlying98, a168 := Tryz.isAgg98, z168 := Tryz.sizeOf98, v168 := Tryz.zeroValue98, t171 := Tryz.underlying115, a171 := Tryz.isAgg115, z171 := Tryz.sizeOf115, v171 := Tryz.zeroValue115, t173 := Tryz.underlying117, a173 := Tryz.isAgg117, z173 := Tryz.sizeOf117, v173 := Tryz.zeroValue117, t175 := Tryz.underlying109, a175 := Tryz.isAgg109, z175 := Tryz.sizeOf109, v175 := Tryz.zeroValue109, t210 := Tryz.underlying113, a210 := Tryz.isAgg113, z210 := Tryz.sizeOf113, v210 := Tryz.zeroValue113, t212 := Tryz.underlying131, a212 := Tryz.isAgg131, z212 := Tryz.sizeOf131, v212 := Tryz.zeroValue131, t213 := Tryz.underlying132, a213 := Tryz.isAgg132, z213 := Tryz.sizeOf132, t232 := Tryz.underlying133, a232 := Tryz.isAgg133, z232 := Tryz.sizeOf133, v232 := Tryz.zeroValue133, t233 := Tryz.underlying134, a233 := Tryz.isAgg134, z233 := Tryz.sizeOf134, v233 := Tryz.zeroValue134, g15 := by kernel_rfl, g16 := by kernel_rfl, g17 := by kernel_rfl, g18 := by kernel_rfl, g19 := by kernel_rfl, t80 := Tryz.underlying69, a80 := Tryz.isAgg69, z80 := Tryz.sizeOf69, v80 := Tryz.zeroValue69, i0 := by kernel_rfl, i2 := by kernel_rfl, i3 := by kernel_rfl, i4 := by kernel_rfl, i5 := by kernel_rfl, i9 := by kernel_rfl, i20 := by kernel_rfl, i21 := by kernel_rfl, i37 := by kernel_rfl, i46 := by kernel_rfl, i51 := by kernel_rfl, i53 := by kernel_rfl, i75 := by kernel_rfl, i76 := by kernel_rfl, i80 := by kernel_rfl, i85 := by kernel_rfl, i127 := by kernel_rfl, i143 := by kernel_rfl, i145 := by kernel_rfl, i167 := by kernel_rfl, i168 := by kernel_rfl, i171 := by kernel_rfl, i173 := by kernel_rfl, i175 := by kernel_rfl, i210 := by kernel_rfl, i212 := by kernel_rfl, i232 := by kernel_rfl, i233 := by kernel_rfl, m15 := by kernel_rfl, m16 := by kernel_rfl, m17 := by kernel_rfl, m18 := by kernel_rfl, m19 := by kernel_rfl, c0 := by kernel_rfl, c2 := by kernel_rfl, c3 := by kernel_rfl, c4 := by kernel_rfl, c5 := by kernel_rfl, c9 := by kernel_rfl, c20 := by kernel_rfl, c21 := by kernel_rfl, c37 := by kernel_rfl, c46 := by kernel_rfl, c51 := by kernel_rfl, c53 := by kernel_rfl, c75 := by kernel_rfl, c76 := by kernel_rfl, c80 := by kernel_rfl, c85 := by kernel_rfl, c127 := by kernel_rfl, c143 := by kernel_rfl, c145 := by kernel_rfl, c167 := by kernel_rfl, c168 := by kernel_rfl, c171 := by kernel_rfl, c173 := by kernel_rfl, c175 := by kernel_rfl, c210 := by kernel_rfl, c212 := by kernel_rfl, c213 := by kernel_rfl, c232 := by kernel_rfl, c233 := by kernel_rfl }
def laySplit_ren : Go.Shelf.Ren := ⟨fun | 146 => 28 | 221 => 39 | 268 => 57 | 138 => 58 | 143 => 59 | 195 => 70 | 197 => 71 | 218 => 72 | 219 => 73 | 260 => 83 | 217 => 84 | 225 => 85 | 224 => 86 | 267 => 87 | 266 => 95 | 314 => 96 | n => n, fun | 9 => 9 | 31 => 44 | 3 => 3 | 4 => 4 | 0 => 0 | 105 => 92 | 21 => 21 | 5 => 5 | 46 => 57 | 119 => 119 | 139 => 122 | 138 => 121 | 146 => 123 | 51 => 78 | n => n, fun | 1 => 0 | 3 => 3 | 4 => 4 | n => n⟩
set_option maxRecDepth 100000 in
theorem laySplit : LaysM.n146 Tryz.prog laySplit_ren := { mixed := by kernel_rfl, f138 := Tryz.func58.trans (congrArg some (by kernel_rfl)), f143 := Tryz.func59.trans (congrArg some (by kernel_rfl)), f146 := Tryz.func28.trans (congrArg some (by kernel_rfl)), f195 := Tryz.func70.trans (congrArg some (by kernel_rfl)), f197 := Tryz.func71.trans (congrArg some (by kernel_rfl)), f217 := Tryz.func84.trans (congrArg some (by kernel_rfl)), f218 := Tryz.func72.trans (congrArg some (by kernel_rfl)), f219 := Tryz.func73.trans (congrArg some (by kernel_rfl)), f221 := Tryz.func39.trans (congrArg some (by kernel_rfl)), f224 := Tryz.func86.trans (congrArg some (by kernel_rfl)), f225 := Tryz.func85.trans (congrArg some (by kernel_rfl)), f260 := Tryz.func83.trans (congrArg some (by kernel_rfl)), f266 := Tryz.func95.trans (congrArg some (by kernel_rfl)), f267 := Tryz.func87.trans (congrArg some (by kernel_rfl)), f268 := Tryz.func57.trans (congrArg some (by kernel_rfl)), f314 := Tryz.func96.trans (congrArg some (by kernel_rfl)), t0 := Tryz.underlying0, a0 := Tryz.isAgg0, z0 := Tryz.sizeOf0, v0 := Tryz.zeroValue0, t3 := Tryz.underlying3, a3 := Tryz.isAgg3, z3 := Tryz.sizeOf3, v3 := Tryz.zeroValue3, t4 := Tryz.underlying4, a4 := Tryz.isAgg4, z4 := Tryz.sizeOf4, v4 := Tryz.zeroValue4, t5 := Tryz.underlying5, a5 := Tryz.isAgg5, z5 := Tryz.sizeOf5, v5 := Tryz.zeroValue5, t9 := Tryz.underlying9, a9 := Tryz.isAgg9, z9 := Tryz.sizeOf9, v9 := Tryz.zeroValue9, t21 := Tryz.underlying21, a21 := Tryz.isAgg21, z21 := Tryz.sizeOf21, v21 := Tryz.zeroValue21, t31 := Tryz.underlying44, a31 := Tryz.isAgg44, z31 := Tryz.sizeOf44, v31 := Tryz.zeroValue44, t46 := Tryz.underlying57, a46 := Tryz.isAgg57, z46 := Tryz.sizeOf57, v46 := Tryz.zeroValue57, t51 := Tryz.underlying78, a51 := Tryz.isAgg78, z51 := Tryz.sizeOf78, v51 := Tryz.zeroValue78, t105 := Tryz.underlying92, a105 := Tryz.isAgg92, z105 := Tryz.sizeOf92, v105 := Tryz.zeroValue92, t119 := Tryz.underlying119, a119 := Tryz.isAgg119, z119 := Tryz.sizeOf119, t138 := Tryz.underlying121, a138 := Tryz.isAgg121, z138 := Tryz.sizeOf121, v138 := Tryz.zeroValue121, t139 := Tryz.underlying122, a139 := Tryz.isAgg122, z139 := Tryz.sizeOf122, v139 := Tryz.zeroValue122, t146 := Tryz.underlying123, a146 := Tryz.isAgg123, z146 := Tryz.sizeOf123, v146 := Tryz.zeroValue123, g1 := by kernel_rfl, g3 := by kernel_rfl, g4 := by kernel_rfl, i0 := by kernel_rfl, i3 := by kernel_rfl, i4 := by kernel_rfl, i5 := by kernel_rfl, i9 := by kernel_rfl, i21 := by kernel_rfl, i31 := by kernel_rfl, i46 := by kernel_rfl, i51 := by kernel_rfl, i105 := by kernel_rfl, i138 := by kernel_rfl, i139 := by kernel_rfl, i146 := by kernel_rfl, m1 := by kernel_rfl, s1_3 := fun w h => Go.Proofs.cell_of_shapedOpen_int (zero := #[.int .i64 0]) (t := 3) h (of_decide_eq_true (by kernel_rfl)) (by kernel_rfl) rfl (by kernel_rfl) (by kernel_rfl) Tryz.underlying3, m3 := by kernel_rfl, m4 := by kernel_rfl }
/-- .. and the two errors, and that MaxLen holds a number. -/
structure Tab2 (w : World) : Prop extends Tab w where
  es : ∃ tp p, w.var? Tryz.prog "strconv.ErrSyntax" = some #[.iface tp p]
  er : ∃ tp p, w.var? Tryz.prog "strconv.ErrRange" = some #[.iface tp p]
  mx : ∃ m, w.cell? ⟨0, 0, none⟩ = some (.int .i64 m)
theorem Tab2.below {w w' : World} (h : Tab2 w) (hb : Below w.heap.size w w') : Tab2 w' := by
  obtain ⟨⟨h1⟩, ⟨a, b, h2⟩, ⟨c, d, h3⟩, ⟨m, h4⟩⟩ := h
  exact ⟨⟨Go.Joins.var_stays layItoa.m17 h1 hb (Nat.le_refl _)⟩, ⟨a, b, Go.Joins.var_stays layAtoi.m15 h2 hb (Nat.le_refl _)⟩, ⟨c, d, Go.Joins.var_stays layAtoi.m16 h3 hb (Nat.le_refl _)⟩, ⟨m, (hb.cell (World.block_lt_of_cell? w _ h4)).trans h4⟩⟩
theorem Tab2.drewN {w : World} (h : Tab2 w) (n : Nat) : Tab2 (w.drewN n) := h.below (pw_below_drewN (Below.refl _ _) n)
/-- What readNum reads. -/
def readN (s : ByteArray) : Int × Bool := match Lib.atoiAll s.data.toList with
  | .ok v => if Lib.itoa v = s.data.toList ∧ -1000000 ≤ v ∧ v ≤ 1000000 then (v, true) else (0, false)
  | _ => (0, false)
/-- strconv.Atoi: the number and no error, or an error that is not nil. -/
theorem atoi_call (s : ByteArray) (hs : s.size ≤ 281474976710656) (w : World) (HT : Tab2 w) :
    Calls Tryz.prog 40 #[.string s] w fun e w' => ((∃ v, Lib.atoiAll s.data.toList = .ok v ∧ e = .returned (.tuple #[.int .i64 v, .nilIface])) ∨ ((∀ v, Lib.atoiAll s.data.toList ≠ .ok v) ∧ ∃ x t N, e = .returned (.tuple #[.int .i64 x, .iface t (.pointer (some ⟨N, 0, none⟩))]))) ∧ Below w.heap.size w w' := by
  cases h : Lib.atoiAll s.data.toList with
  | ok v =>
    refine (Any.strconv_Atoi_ok layAtoi s (by omega) v h w).mono ?_
    rintro e w' ⟨rfl, hw⟩
    refine ⟨.inl ⟨v, rfl, rfl⟩, ?_⟩
    rcases hw with rfl | ⟨t, rfl⟩
    · exact Below.refl _ _
    · exact bytes_below (Below.refl _ _) (Nat.le_refl _) _ t
  | «syntax» =>
    obtain ⟨tp, p, hv⟩ := HT.es
    refine (Any.strconv_Atoi_syntax_var layAtoi s hs h tp p w hv).mono ?_
    rintro e w' ⟨M, rfl, _, _, hb⟩
    exact ⟨.inr ⟨(fun v hv => by cases hv), _, _, M, rfl⟩, hb⟩
  | range =>
    obtain ⟨tp, p, hv⟩ := HT.er
    refine (Any.strconv_Atoi_range_var layAtoi s hs h tp p w hv).mono ?_
    rintro e w' ⟨M, rfl, _, _, hb⟩
    exact ⟨.inr ⟨(fun v hv => by cases hv), _, _, M, rfl⟩, hb⟩
theorem atoi_ok (s : ByteArray) (hs : s.size ≤ 281474976710656) (v : Int) (h : Lib.atoiAll s.data.toList = .ok v) (w : World) :
    Calls Tryz.prog 40 #[.string s] w fun e w' => e = .returned (.tuple #[.int .i64 v, .nilIface]) ∧ Below w.heap.size w w' := by
  refine (Any.strconv_Atoi_ok layAtoi s (by omega) v h w).mono ?_
  rintro e w' ⟨rfl, hw⟩
  refine ⟨rfl, ?_⟩
  rcases hw with rfl | ⟨t, rfl⟩
  · exact Below.refl _ _
  · exact bytes_below (Below.refl _ _) (Nat.le_refl _) _ t
theorem atoi_bad (s : ByteArray) (hs : s.size ≤ 281474976710656) (hx : ∀ v, Lib.atoiAll s.data.toList ≠ .ok v) (w : World) (HT : Tab2 w) :
    Calls Tryz.prog 40 #[.string s] w fun e w' => ∃ x t N, e = .returned (.tuple #[.int .i64 x, .iface t (.pointer (some ⟨N, 0, none⟩))]) ∧ Below w.heap.size w w' := by
  refine (atoi_call s hs w HT).mono ?_
  rintro e w' ⟨h | h, hb⟩
  · obtain ⟨v, hv, _⟩ := h
    exact absurd hv (hx v)
  · obtain ⟨_, x, t, M, rfl⟩ := h
    exact ⟨x, t, M, rfl, hb⟩
theorem readN_bad {s : ByteArray} (hx : ∀ v, Lib.atoiAll s.data.toList ≠ .ok v) : readN s = (0, false) := by
  unfold readN
  cases h : Lib.atoiAll s.data.toList with
  | ok v => exact absurd h (hx v)
  | «syntax» => rfl
  | range => rfl
theorem atoi_range {s : List UInt8} {v : Int} (h : Lib.atoiAll s = .ok v) : -9223372036854775808 ≤ v ∧ v ≤ 9223372036854775807 := by
  unfold Lib.atoiAll at h
  cases s with
  | nil => cases h
  | cons c r =>
    simp only at h
    split at h
    all_goals (first | cases h | skip)
    all_goals (repeat' split at h)
    all_goals (first | (injection h with h; subst h; omega) | cases h)
theorem split_row (w : World) (E : Nat) (xs : List ByteArray) (n : Nat) (hl : xs.length = n) (hn : n ≤ maxLen) : Kd.R Kd.string E (w.alloc (.cells (xs.map Value.string).toArray E)) w.heap.size (fun _ => True) (.slice (some ⟨w.heap.size, 0, none⟩) n n) xs := by
  subst hl
  refine Kd.R_of_own (enc := Value.string) ?_ (fun _ _ => trivial)
  have h2 := World.ownsRow_lit (base := w.heap.size) (e := E) (size := 1) w (xs.map Value.string).toArray xs.length (Nat.le_refl _) hn (by simp)
  simpa [encs] using h2
/-- strings.Split at one byte: the pieces, in a new row of their own. -/
theorem split_call (s sep : ByteArray) (hs : s.size < 4294967281) (h1 : 1 ≤ sep.size) (w : World) (HT : Tab2 w) :
    Calls Tryz.prog 28 #[.string s, .string sep] w fun e w' => ∃ v0_ : Value, e = .returned (v0_) ∧ Kd.R Kd.string 9 w' w.heap.size (fun _ => True) v0_ (Lib.splitB sep 0 (Lib.countB s sep) s) ∧ Below w.heap.size w w' := by
  obtain ⟨m, hm⟩ := HT.mx
  refine (Any.strings_Split { laySplit with } laySplit.i9 s sep m w hs hm h1).mono ?_
  rintro e w' ⟨rfl, rfl⟩
  have hlen := Lib.splitB_all sep h1 0 _ s rfl
  refine ⟨_, rfl, ?_, below_alloc (Below.refl _ _) _⟩
  have hle := Lib.countB_le sep h1 s.size s (Nat.le_refl _)
  exact split_row w 9 _ _ hlen (by simp only [maxLen]; omega)
def layJoin_ren : Go.Shelf.Ren := ⟨fun | 156 => 31 | 165 => 43 | 166 => 44 | 169 => 45 | 240 => 63 | 241 => 64 | 276 => 80 | 277 => 81 | n => n, fun | 31 => 44 | 9 => 9 | 3 => 3 | 4 => 4 | 0 => 0 | 20 => 20 | 72 => 67 | 76 => 62 | 70 => 65 | 37 => 22 | 75 => 61 | 127 => 84 | 164 => 102 | 5 => 5 | 80 => 69 | n => n, fun n => n⟩
set_option maxRecDepth 100000 in
theorem layJoin : Lays.n156 Tryz.prog layJoin_ren := { mixed := by kernel_rfl, f156 := Tryz.func31.trans (congrArg some (by kernel_rfl)), f165 := Tryz.func43.trans (congrArg some (by kernel_rfl)), f166 := Tryz.func44.trans (congrArg some (by kernel_rfl)), f169 := Tryz.func45.trans (congrArg some (by kernel_rfl)), f240 := Tryz.func63.trans (congrArg some (by kernel_rfl)), f241 := Tryz.func64.trans (congrArg some (by kernel_rfl)), f276 := Tryz.func80.trans (congrArg some (by kernel_rfl)), f277 := Tryz.func81.trans (congrArg some (by kernel_rfl)), t0 := Tryz.underlying0, a0 := Tryz.isAgg0, z0 := Tryz.sizeOf0, v0 := Tryz.zeroValue0, t3 := Tryz.underlying3, a3 := Tryz.isAgg3, z3 := Tryz.sizeOf3, v3 := Tryz.zeroValue3, t4 := Tryz.underlying4, a4 := Tryz.isAgg4, z4 := Tryz.sizeOf4, v4 := Tryz.zeroValue4, t9 := Tryz.underlying9, a9 := Tryz.isAgg9, z9 := Tryz.sizeOf9, v9 := Tryz.zeroValue9, t20 := Tryz.underlying20, a20 := Tryz.isAgg20, z20 := Tryz.sizeOf20, v20 := Tryz.zeroValue20, t31 := Tryz.underlying44, a31 := Tryz.isAgg44, z31 := Tryz.sizeOf44, v31 := Tryz.zeroValue44, t37 := Tryz.underlying22, a37 := Tryz.isAgg22, z37 := Tryz.sizeOf22, v37 := Tryz.zeroValue22, t70 := Tryz.underlying65, a70 := Tryz.isAgg65, z70 := Tryz.sizeOf65, v70 := Tryz.zeroValue65, t72 := Tryz.underlying67, a72 := Tryz.isAgg67, z72 := Tryz.sizeOf67, v72 := Tryz.zeroValue67, t75 := Tryz.underlying61, a75 := Tryz.isAgg61, z75 := Tryz.sizeOf61, v75 := Tryz.zeroValue61, t76 := Tryz.underlying62, a76 := Tryz.isAgg62, z76 := Tryz.sizeOf62, v76 := Tryz.zeroValue62, t127 := Tryz.underlying84, a127 := Tryz.isAgg84, z127 := Tryz.sizeOf84, v127 := Tryz.zeroValue84, t164 := Tryz.underlying102, a164 := Tryz.isAgg102, z164 := Tryz.sizeOf102, v164 := Tryz.zeroValue102 }
theorem layJoinX : Builder.Extra Tryz.prog layJoin_ren where
  sizeBuilder := by kernel_rfl
  liesBuilder := by kernel_rfl
  t5 := Tryz.underlying5
  a5 := Tryz.isAgg5
  z5 := Tryz.sizeOf5
  v5 := Tryz.zeroValue5
  infoByte := by kernel_rfl
  cellsByte := by kernel_rfl
  sizeByte := by kernel_rfl
  neB5 := by decide
theorem cell_spot {w : World} {b o : Nat} {t : Option Nat} {v : Value} (h : w.cell? ((⟨b, o, t⟩ : Addr).add (0 : Int).toNat) = some v) : t = none := by
  cases t with
  | none => rfl
  | some x =>
    exfalso
    revert h
    show w.cell? ⟨b, o, some x⟩ = some v → False
    unfold World.cell?
    split
    · simp
    · simp
def joinS (xs : List ByteArray) (sep : ByteArray) : ByteArray := ⟨(Lib.join (xs.map (·.data.toList)) sep.data.toList).toArray⟩
theorem join_call (A0 : Option Addr) (c0 : Nat) (xs : List ByteArray) (sep : ByteArray) (w : World) (hr : Kd.C Kd.string w A0 xs.length xs) (hc : xs.length ≤ c0) (hN : xs.length ≤ 140737488355328) (hl : (joinS xs sep).size ≤ 281474976710656) :
    Calls Tryz.prog 31 #[.slice A0 xs.length c0, .string sep] w fun e w' => e = .returned (.string (joinS xs sep)) ∧ Below w.heap.size w w' := by
  rcases xs with _ | ⟨x, r⟩
  · refine (Any.strings_Join_none layJoin layJoinX A0 c0 sep w).mono ?_
    rintro e w' ⟨rfl, rfl⟩
    exact ⟨rfl, Below.refl _ _⟩
  · obtain ⟨ad, rfl, h0⟩ := Kd.at_string hr 0 (by omega) (by simp only [List.length_cons]; omega)
    obtain ⟨b, o, t⟩ := ad
    have hst : t = none := cell_spot h0
    subst hst
    refine Any.strings_Join_48 layJoin layJoinX b o c0 (x :: r) sep w ?_ ?_ hN hc ?_
    · intro j y hj
      obtain ⟨hlt, rfl⟩ := List.getElem?_eq_some_iff.1 hj
      obtain ⟨ad, e, h⟩ := Kd.at_string hr (j : Int) (by omega) (by omega)
      cases e
      rw [show Addr.add ⟨b, o, none⟩ ((j : Int)).toNat = ⟨b, o + j, none⟩ by rw [Int.toNat_natCast]; unfold Addr.add; split <;> simp_all] at h
      rw [h, show rdOf ByteArray.empty (x :: r) (j : Int) = (x :: r)[j] by simp only [rdOf, Int.toNat_natCast]; rw [List.getD_eq_getElem?_getD, List.getElem?_eq_getElem hlt]; rfl]
    · have := World.block_lt_of_cell? w _ h0
      exact this
    · simpa [joinS, ByteArray.size] using hl
theorem tab_of_reads {W : World} {n : String} {k : IntKind} {zs : List Int} {g : Nat} {t e : TypeId} {m : Nat} (h : Lib.VarReads Tryz.prog W n (Lib.tabData k zs)) (hg : Tryz.prog.globalNamed n = some g) (hty : (Tryz.prog.globals[g]?).map (·.type) = some t) (ht : Tryz.prog.underlying t = some (.array m e)) (he : Tryz.prog.underlying e = some (.int k)) (hce : Tryz.prog.cellsOf e = 1) (hct : Tryz.prog.cellsOf t = m) : Lib.TabIs Tryz.prog W n k zs := by
  obtain ⟨g', t', cs, fuel, p, hg', ht', hvar, hd⟩ := h
  obtain rfl := Option.some.inj (hg.symm.trans hg')
  obtain rfl := Option.some.inj (hty.symm.trans ht')
  unfold Lib.TabIs
  rw [hvar, ← Lib.cells_of_tab ht he hce hct hd]
theorem iface_of_reads {W : World} {n nm : String} {d : DataW Unit} {g : Nat} {ti : TypeId} {ms : Array (String × TypeId)} (h : Lib.VarReads Tryz.prog W n (.iface nm d)) (hg : Tryz.prog.globalNamed n = some g) (hty : (Tryz.prog.globals[g]?).map (·.type) = some ti) (hi : Tryz.prog.underlying ti = some (.interface ms)) : ∃ tp p, W.var? Tryz.prog n = some #[.iface tp p] := by
  obtain ⟨g', t', cs, fuel, p, hg', ht', hvar, hd⟩ := h
  obtain rfl := Option.some.inj (hg.symm.trans hg')
  obtain rfl := Option.some.inj (hty.symm.trans ht')
  obtain ⟨_, u, v, hc, _⟩ := iface_of_trod hi hd
  refine ⟨u, v, ?_⟩
  rw [hvar]
  cases cs
  simp_all
theorem tab_of_laid {W : World} {l : List (String × DataW Unit)} (hL : laidMet Tryz.prog l W) (h10 : ("internal/strconv.uint64pow10", (Lib.tabData .u64 Lib.pow10Tab : DataW Unit)) ∈ l) : Tab W :=
  ⟨tab_of_reads (Lib.laidMet.reads hL h10) layItoa.m17 (by kernel_rfl) Tryz.underlying131 Tryz.underlying80 (by kernel_rfl) (by kernel_rfl)⟩
/-- A start that fits: the laid world. -/
theorem witness_row_zip {H : Type} {enc : TypeId × Value → H} {C : Checked} {os : Os} {f : FuncId} {fn : Func} {s : OpenSpec} {conds : List PathCond} {apart : Bool} {laid : List (String × DataW Unit)} (modest : Bool) (w0 : World) (args : Array Value) (hos : w0.os = os)
    (hsh : (w0.forCall (fun _ _ => 0) ⟨#[], args, []⟩).Shaped C.prog) (hok : Input.okWideB C.prog (w0.forCall (fun _ _ => 0) ⟨#[], args, []⟩) f ⟨#[], args, []⟩ = true)
    (hrow : s.preRow enc C.prog fn conds apart laid (w0.forCall (fun _ _ => 0) ⟨#[], args, []⟩).memory args) :
    ∃ (w : World) (tape : Tape) (i : Input), w.os = os ∧ (w.forCall tape i).Shaped C.prog ∧ i.vars = [] ∧ Input.okWide C.prog (w.forCall tape i) .any w.heap.size f i ∧
      s.preRow enc C.prog fn conds apart laid (w.forCall tape i).memory i.args ∧ ({ modest := modest } : Assume).holds C.prog (lone (Frame.enter C.prog f i.args .normal) [] (w.forCall tape i)) :=
  ⟨w0, fun _ _ => 0, ⟨#[], args, []⟩, hos, hsh, (Input.okWide_of_okWideB (base := 0) hok).1, (Input.okWide_of_okWideB hok).2, hrow, by
    simp only [Assume.holds]
    exact ⟨by simp, by simp, fun _ => Modest.zero, by simp, by simp⟩⟩
theorem tab2_of_laid {W : World} {l : List (String × DataW Unit)} (hL : laidMet Tryz.prog l W) (hs : W.ShapedOpen Tryz.prog) (h10 : ("internal/strconv.uint64pow10", (Lib.tabData .u64 Lib.pow10Tab : DataW Unit)) ∈ l) {n1 n2 : String} {d1 d2 : DataW Unit} (h1 : ("strconv.ErrSyntax", .iface n1 d1) ∈ l) (h2 : ("strconv.ErrRange", .iface n2 d2) ∈ l) : Tab2 W :=
  { tab_of_laid hL h10 with
    es := iface_of_reads (Lib.laidMet.reads hL h1) layAtoi.m15 (by kernel_rfl) Tryz.underlying61
    er := iface_of_reads (Lib.laidMet.reads hL h2) layAtoi.m16 (by kernel_rfl) Tryz.underlying61
    mx := laySplit.s1_3 W hs }
end Go.Proofs.YtbdfidnldaghbaaGreatDoor.Lay
