/- What this seat's functions take out of Go's library (strconv.Itoa and what stands beside it): the library's contracts at this program, told of the print's rows. Written by a program of this session. -/
import Derived.Test.YtbdfidnldaghbaaDoorProg
import Derived.Test.YtbdfidnldaghbaaDoorOwn
import Derived.Shelf.Strconv.Itoa3
import Derived.Lib.LaidTab
import Derived.Lib.SmallJoins
import Derived.Lib.AppendIntMem
import Derived.Lib.ItoaLen
import Derived.Lib.LaidU8
import Derived.LaidLaws
import Derived.MakeChecks
import Derived.Deep.DeepHandedRow
import Derived.Lay
import Derived.Shelf.Strconv.ErrVarAll
import Derived.Shelf.Strconv.AtoiAll
import Derived.Shelf.Strings.SplitShaped
import Derived.Shelf.Strings.Shaped
import Derived.Room.Shelf.Join48
set_option linter.unusedVariables false
set_option linter.unusedSimpArgs false
namespace Go.Proofs.YtbdfidnldaghbaaDoor.Lay
open Go Go.RowKit Go.Shelf Go.Proofs.YtbdfidnldaghbaaDoorW.PrintWords Go.Proofs.YtbdfidnldaghbaaDoorW.PrintLast Go.Proofs.YtbdfidnldaghbaaDoorW.PrintMore
def layItoa_ren : Go.Shelf.Ren := ⟨fun | 171 => 20 | 243 => 29 | 246 => 38 | 283 => 50 | 284 => 51 | 285 => 52 | 286 => 53 | 129 => 63 | 317 => 62 | 318 => 64 | 319 => 65 | 320 => 66 | 337 => 71 | 338 => 72 | n => n, fun | 3 => 3 | 9 => 9 | 2 => 2 | 4 => 4 | 171 => 69 | 0 => 0 | 53 => 70 | 37 => 38 | 5 => 5 | 173 => 73 | 212 => 84 | 51 => 85 | 20 => 20 | 213 => 86 | 46 => 76 | 232 => 99 | 233 => 100 | n => n, fun | 17 => 3 | 18 => 6 | 19 => 7 | n => n⟩
set_option maxRecDepth 100000 in
theorem layItoa : LaysM.n171 Tryd.prog layItoa_ren := { mixed := by kernel_rfl, f129 := Tryd.func63.trans (congrArg some (by kernel_rfl)), f171 := Tryd.func20.trans (congrArg some (by kernel_rfl)), f243 := Tryd.func29.trans (congrArg some (by kernel_rfl)), f246 := Tryd.func38.trans (congrArg some (by kernel_rfl)), f283 := Tryd.func50.trans (congrArg some (by kernel_rfl)), f284 := Tryd.func51.trans (congrArg some (by kernel_rfl)), f285 := Tryd.func52.trans (congrArg some (by kernel_rfl)), f286 := Tryd.func53.trans (congrArg some (by kernel_rfl)), f317 := Tryd.func62.trans (congrArg some (by kernel_rfl)), f318 := Tryd.func64.trans (congrArg some (by kernel_rfl)), f319 := Tryd.func65.trans (congrArg some (by kernel_rfl)), f320 := Tryd.func66.trans (congrArg some (by kernel_rfl)), f337 := Tryd.func71.trans (congrArg some (by kernel_rfl)), f338 := Tryd.func72.trans (congrArg some (by kernel_rfl)), t0 := Tryd.underlying0, a0 := Tryd.isAgg0, z0 := Tryd.sizeOf0, v0 := Tryd.zeroValue0, t2 := Tryd.underlying2, a2 := Tryd.isAgg2, z2 := Tryd.sizeOf2, v2 := Tryd.zeroValue2, t3 := Tryd.underlying3, a3 := Tryd.isAgg3, z3 := Tryd.sizeOf3, v3 := Tryd.zeroValue3, t4 := Tryd.underlying4, a4 := Tryd.isAgg4, z4 := Tryd.sizeOf4, v4 := Tryd.zeroValue4, t5 := Tryd.underlying5, a5 := Tryd.isAgg5, z5 := Tryd.sizeOf5, v5 := Tryd.zeroValue5, t9 := Tryd.underlying9, a9 := Tryd.isAgg9, z9 := Tryd.sizeOf9, v9 := Tryd.zeroValue9, t20 := Tryd.underlying20, a20 := Tryd.isAgg20, z20 := Tryd.sizeOf20, v20 := Tryd.zeroValue20, t37 := Tryd.underlying38, a37 := Tryd.isAgg38, z37 := Tryd.sizeOf38, v37 := Tryd.zeroValue38, t46 := Tryd.underlying76, a46 := Tryd.isAgg76, z46 := Tryd.sizeOf76, v46 := Tryd.zeroValue76, t51 := Tryd.underlying85, a51 := Tryd.isAgg85, z51 := Tryd.sizeOf85, v51 := Tryd.zeroValue85, t53 := Tryd.underlying70, a53 := Tryd.isAgg70, z53 := Tryd.sizeOf70, v53 := Tryd.zeroValue70, t171 := Tryd.underlying69, a171 := Tryd.isAgg69, z171 := Tryd.sizeOf69, v171 := Tryd.zeroValue69, t173 := Tryd.underlying73, a173 := Tryd.isAgg73, z173 := Tryd.sizeOf73, v173 := Tryd.zeroValue73, t212 := Tryd.underlying84, a212 := Tryd.isAgg84, z212 := Tryd.sizeOf84, v212 := Tryd.zeroValue84, t213 := Tryd.underlying86, a213 := Tryd.isAgg86, z213 := Tryd.sizeOf86, t232 := Tryd.underlying99, a232 := Tryd.isAgg99, z232 := Tryd.sizeOf99, v232 := Tryd.zeroValue99, t233 := Tryd.underlying100, a233 := Tryd.isAgg100, z233 := Tryd.sizeOf100, v233 := Tryd.zeroValue100, g17 := by kernel_rfl, g18 := by kernel_rfl, g19 := by kernel_rfl, i0 := by kernel_rfl, i2 := by kernel_rfl, i3 := by kernel_rfl, i4 := by kernel_rfl, i5 := by kernel_rfl, i9 := by kernel_rfl, i20 := by kernel_rfl, i37 := by kernel_rfl, i46 := by kernel_rfl, i51 := by kernel_rfl, i53 := by kernel_rfl, i171 := by kernel_rfl, i173 := by kernel_rfl, i212 := by kernel_rfl, i232 := by kernel_rfl, i233 := by kernel_rfl, m17 := by kernel_rfl, m18 := by kernel_rfl, m19 := by kernel_rfl }
/-- What the row's list gives of the world: the table of the powers of ten. -/
structure Tab (w : World) : Prop where
  t10 : Lib.TabIs Tryd.prog w "internal/strconv.uint64pow10" .u64 Lib.pow10Tab
theorem Tab.below {w w' : World} (h : Tab w) (hb : Below w.heap.size w w') : Tab w' := ⟨Go.Joins.var_stays layItoa.m17 h.t10 hb (Nat.le_refl _)⟩
theorem Tab.drewN {w : World} (h : Tab w) (n : Nat) : Tab (w.drewN n) := h.below (pw_below_drewN (Below.refl _ _) n)
theorem itoa_call (a0 : Int) (h0 : -9223372036854775808 ≤ a0) (h1 : a0 ≤ 9223372036854775807) (w : World) (HT : Tab w) :
    Calls Tryd.prog 20 #[.int .i64 a0] w fun e w' => e = .returned (.string ⟨(Lib.itoa a0).toArray⟩) ∧ Below w.heap.size w w' := by
  refine (Any.strconv_Itoa layItoa a0 h0 h1 w HT.t10).mono ?_
  rintro e w' ⟨rfl, k, os, rfl⟩
  exact ⟨rfl, Lib.below_grow _ w (Nat.le_refl _) k os⟩
def layAtoi_ren : Go.Shelf.Ren := ⟨fun | 172 => 27 | 244 => 35 | 245 => 36 | 247 => 45 | 279 => 46 | 280 => 47 | 281 => 48 | 282 => 49 | 287 => 59 | 316 => 60 | 171 => 20 | 205 => 61 | 321 => 69 | 322 => 70 | 243 => 29 | 246 => 38 | 283 => 50 | 284 => 51 | 285 => 52 | 286 => 53 | 129 => 63 | 317 => 62 | 318 => 64 | 319 => 65 | 320 => 66 | 337 => 71 | 338 => 72 | n => n, fun | 9 => 9 | 3 => 3 | 75 => 44 | 76 => 45 | 4 => 4 | 5 => 5 | 167 => 63 | 37 => 38 | 0 => 0 | 85 => 64 | 2 => 2 | 168 => 66 | 53 => 70 | 175 => 77 | 46 => 76 | 210 => 81 | 127 => 51 | 145 => 97 | 143 => 95 | 21 => 21 | 171 => 69 | 173 => 73 | 212 => 84 | 51 => 85 | 20 => 20 | 213 => 86 | 232 => 99 | 233 => 100 | 80 => 47 | n => n, fun | 15 => 1 | 16 => 2 | 17 => 3 | 18 => 6 | 19 => 7 | n => n⟩
set_option maxRecDepth 100000 in
theorem layAtoi : LaysC.n172 Tryd.prog layAtoi_ren := { mixed := by kernel_rfl, f129 := Tryd.func63.trans (congrArg some (by kernel_rfl)), f171 := Tryd.func20.trans (congrArg some (by kernel_rfl)), f172 := Tryd.func27.trans (congrArg some (by kernel_rfl)), f205 := Tryd.func61.trans (congrArg some (by kernel_rfl)), f243 := Tryd.func29.trans (congrArg some (by kernel_rfl)), f244 := Tryd.func35.trans (congrArg some (by kernel_rfl)), f245 := Tryd.func36.trans (congrArg some (by kernel_rfl)), f246 := Tryd.func38.trans (congrArg some (by kernel_rfl)), f247 := Tryd.func45.trans (congrArg some (by kernel_rfl)), f279 := Tryd.func46.trans (congrArg some (by kernel_rfl)), f280 := Tryd.func47.trans (congrArg some (by kernel_rfl)), f281 := Tryd.func48.trans (congrArg some (by kernel_rfl)), f282 := Tryd.func49.trans (congrArg some (by kernel_rfl)), f283 := Tryd.func50.trans (congrArg some (by kernel_rfl)), f284 := Tryd.func51.trans (congrArg some (by kernel_rfl)), f285 := Tryd.func52.trans (congrArg some (by kernel_rfl)), f286 := Tryd.func53.trans (congrArg some (by kernel_rfl)), f287 := Tryd.func59.trans (congrArg some (by kernel_rfl)), f316 := Tryd.func60.trans (congrArg some (by kernel_rfl)), f317 := Tryd.func62.trans (congrArg some (by kernel_rfl)), f318 := Tryd.func64.trans (congrArg some (by kernel_rfl)), f319 := Tryd.func65.trans (congrArg some (by kernel_rfl)), f320 := Tryd.func66.trans (congrArg some (by kernel_rfl)), f321 := Tryd.func69.trans (congrArg some (by kernel_rfl)), f322 := Tryd.func70.trans (congrArg some (by kernel_rfl)), f337 := Tryd.func71.trans (congrArg some (by kernel_rfl)), f338 := Tryd.func72.trans (congrArg some (by kernel_rfl)), t0 := Tryd.underlying0, a0 := Tryd.isAgg0, z0 := Tryd.sizeOf0, v0 := Tryd.zeroValue0, t2 := Tryd.underlying2, a2 := Tryd.isAgg2, z2 := Tryd.sizeOf2, v2 := Tryd.zeroValue2, t3 := Tryd.underlying3, a3 := Tryd.isAgg3, z3 := Tryd.sizeOf3, v3 := Tryd.zeroValue3, t4 := Tryd.underlying4, a4 := Tryd.isAgg4, z4 := Tryd.sizeOf4, v4 := Tryd.zeroValue4, t5 := Tryd.underlying5, a5 := Tryd.isAgg5, z5 := Tryd.sizeOf5, v5 := Tryd.zeroValue5, t9 := Tryd.underlying9, a9 := Tryd.isAgg9, z9 := Tryd.sizeOf9, v9 := Tryd.zeroValue9, t20 := Tryd.underlying20, a20 := Tryd.isAgg20, z20 := Tryd.sizeOf20, v20 := Tryd.zeroValue20, t21 := Tryd.underlying21, a21 := Tryd.isAgg21, z21 := Tryd.sizeOf21, v21 := Tryd.zeroValue21, t37 := Tryd.underlying38, a37 := Tryd.isAgg38, z37 := Tryd.sizeOf38, v37 := Tryd.zeroValue38, t46 := Tryd.underlying76, a46 := Tryd.isAgg76, z46 := Tryd.sizeOf76, v46 := Tryd.zeroValue76, t51 := Tryd.underlying85, a51 := Tryd.isAgg85, z51 := Tryd.sizeOf85, v51 := Tryd.zeroValue85, t53 := Tryd.underlying70, a53 := Tryd.isAgg70, z53 := Tryd.sizeOf70, v53 := Tryd.zeroValue70, t75 := Tryd.underlying44, a75 := Tryd.isAgg44, z75 := Tryd.sizeOf44, v75 := Tryd.zeroValue44, t76 := Tryd.underlying45, a76 := Tryd.isAgg45, z76 := Tryd.sizeOf45, v76 := Tryd.zeroValue45, t85 := Tryd.underlying64, a85 := Tryd.isAgg64, z85 := Tryd.sizeOf64, v85 := Tryd.zeroValue64, t127 := Tryd.underlying51, a127 := Tryd.isAgg51, z127 := Tryd.sizeOf51, v127 := Tryd.zeroValue51, t143 := Tryd.underlying95, a143 := Tryd.isAgg95, z143 := Tryd.sizeOf95, v143 := Tryd.zeroValue95, t145 := Tryd.underlying97, a145 := Tryd.isAgg97, z145 := Tryd.sizeOf97, v145 := Tryd.zeroValue97, t167 := Tryd.underlying63, a167 := Tryd.isAgg63, z167 := Tryd.sizeOf63, v167 := Tryd.zeroValue63, t168 := Tryd.underlying66, a168 := Tryd.isAgg66, z168 := Tryd.sizeOf66, v168 := Tryd.zeroValue66, t171 := Tryd.underlying69, a171 := Tryd.isAgg69, z171 := Tryd.sizeOf69, v171 := Tryd.zeroValue69, t173 := Tryd.underlying73, a173 := Tryd.isAgg73, z173 := Tryd.sizeOf73, v173 := Tryd.zeroValue73, t175 := Tryd.underlying77, a175 := Tryd.isAgg77, z175 := Tryd.sizeOf77, v175 := Tryd.zeroValue77, t210 := Tryd.underlying81, a210 := Tryd.isAgg81, z210 := Tryd.sizeOf81, v210 := Tryd.zeroValue81, t212 := Tryd.underlying84, a212 := Tryd.isAgg84, z212 := Tryd.sizeOf84, v212 := Tryd.zeroValue84, t213 := Tryd.underlying86, a213 := Tryd.isAgg86, z213 := Tryd.sizeOf86, t232 := Tryd.underlying99, a232 := Tryd.isAgg99, z232 := Tryd.sizeOf99, v232 := Tryd.zeroValue99, t233 := Tryd.underlying100, a233 := Tryd.isAgg100, z233 := Tryd.sizeOf100, v233 := Tryd.zeroValue100, g15 := by kernel_rfl, g16 := by kernel_rfl, g17 := by kernel_rfl, g18 := by kernel_rfl, g19 := by kernel_rfl, t80 := Tryd.underlying47, a80 := Tryd.isAgg47, z80 := Tryd.sizeOf47, v80 := Tryd.zeroValue47, i0 := by kernel_rfl, i2 := by kernel_rfl, i3 := by kernel_rfl, i4 := by kernel_rfl, i5 := by kernel_rfl, i9 := by kernel_rfl, i20 := by kernel_rfl, i21 := by kernel_rfl, i37 := by kernel_rfl, i46 := by kernel_rfl, i51 := by kernel_rfl, i53 := by kernel_rfl, i75 := by kernel_rfl, i76 := by kernel_rfl, i80 := by kernel_rfl, i85 := by kernel_rfl, i127 := by kernel_rfl, i143 := by kernel_rfl, i145 := by kernel_rfl, i167 := by kernel_rfl, i168 := by kernel_rfl, i171 := by kernel_rfl, i173 := by kernel_rfl, i175 := by kernel_rfl, i210 := by kernel_rfl, i212 := by kernel_rfl, i232 := by kernel_rfl, i233 := by kernel_rfl, m15 := by kernel_rfl, m16 := by kernel_rfl, m17 := by kernel_rfl, m18 := by kernel_rfl, m19 := by kernel_rfl, c0 := by kernel_rfl, c2 := by kernel_rfl, c3 := by kernel_rfl, c4 := by kernel_rfl, c5 := by kernel_rfl, c9 := by kernel_rfl, c20 := by kernel_rfl, c21 := by kernel_rfl, c37 := by kernel_rfl, c46 := by kernel_rfl, c51 := by kernel_rfl, c53 := by kernel_rfl, c75 := by kernel_rfl, c76 := by kernel_rfl, c80 := by kernel_rfl, c85 := by kernel_rfl, c127 := by kernel_rfl, c143 := by kernel_rfl, c145 := by kernel_rfl, c167 := by kernel_rfl, c168 := by kernel_rfl, c171 := by kernel_rfl, c173 := by kernel_rfl, c175 := by kernel_rfl, c210 := by kernel_rfl, c212 := by kernel_rfl, c213 := by kernel_rfl, c232 := by kernel_rfl, c233 := by kernel_rfl }
def laySplit_ren : Go.Shelf.Ren := ⟨fun | 146 => 18 | 221 => 26 | 268 => 32 | 138 => 33 | 143 => 34 | 195 => 41 | 197 => 42 | 218 => 43 | 219 => 44 | 260 => 54 | 217 => 55 | 225 => 56 | 224 => 57 | 267 => 58 | 266 => 67 | 314 => 68 | n => n, fun | 9 => 9 | 31 => 32 | 3 => 3 | 4 => 4 | 0 => 0 | 105 => 60 | 21 => 21 | 5 => 5 | 46 => 76 | 119 => 88 | 139 => 91 | 138 => 90 | 146 => 92 | 51 => 85 | n => n, fun | 1 => 0 | 3 => 4 | 4 => 5 | n => n⟩
set_option maxRecDepth 100000 in
theorem laySplit : LaysM.n146 Tryd.prog laySplit_ren := { mixed := by kernel_rfl, f138 := Tryd.func33.trans (congrArg some (by kernel_rfl)), f143 := Tryd.func34.trans (congrArg some (by kernel_rfl)), f146 := Tryd.func18.trans (congrArg some (by kernel_rfl)), f195 := Tryd.func41.trans (congrArg some (by kernel_rfl)), f197 := Tryd.func42.trans (congrArg some (by kernel_rfl)), f217 := Tryd.func55.trans (congrArg some (by kernel_rfl)), f218 := Tryd.func43.trans (congrArg some (by kernel_rfl)), f219 := Tryd.func44.trans (congrArg some (by kernel_rfl)), f221 := Tryd.func26.trans (congrArg some (by kernel_rfl)), f224 := Tryd.func57.trans (congrArg some (by kernel_rfl)), f225 := Tryd.func56.trans (congrArg some (by kernel_rfl)), f260 := Tryd.func54.trans (congrArg some (by kernel_rfl)), f266 := Tryd.func67.trans (congrArg some (by kernel_rfl)), f267 := Tryd.func58.trans (congrArg some (by kernel_rfl)), f268 := Tryd.func32.trans (congrArg some (by kernel_rfl)), f314 := Tryd.func68.trans (congrArg some (by kernel_rfl)), t0 := Tryd.underlying0, a0 := Tryd.isAgg0, z0 := Tryd.sizeOf0, v0 := Tryd.zeroValue0, t3 := Tryd.underlying3, a3 := Tryd.isAgg3, z3 := Tryd.sizeOf3, v3 := Tryd.zeroValue3, t4 := Tryd.underlying4, a4 := Tryd.isAgg4, z4 := Tryd.sizeOf4, v4 := Tryd.zeroValue4, t5 := Tryd.underlying5, a5 := Tryd.isAgg5, z5 := Tryd.sizeOf5, v5 := Tryd.zeroValue5, t9 := Tryd.underlying9, a9 := Tryd.isAgg9, z9 := Tryd.sizeOf9, v9 := Tryd.zeroValue9, t21 := Tryd.underlying21, a21 := Tryd.isAgg21, z21 := Tryd.sizeOf21, v21 := Tryd.zeroValue21, t31 := Tryd.underlying32, a31 := Tryd.isAgg32, z31 := Tryd.sizeOf32, v31 := Tryd.zeroValue32, t46 := Tryd.underlying76, a46 := Tryd.isAgg76, z46 := Tryd.sizeOf76, v46 := Tryd.zeroValue76, t51 := Tryd.underlying85, a51 := Tryd.isAgg85, z51 := Tryd.sizeOf85, v51 := Tryd.zeroValue85, t105 := Tryd.underlying60, a105 := Tryd.isAgg60, z105 := Tryd.sizeOf60, v105 := Tryd.zeroValue60, t119 := Tryd.underlying88, a119 := Tryd.isAgg88, z119 := Tryd.sizeOf88, t138 := Tryd.underlying90, a138 := Tryd.isAgg90, z138 := Tryd.sizeOf90, v138 := Tryd.zeroValue90, t139 := Tryd.underlying91, a139 := Tryd.isAgg91, z139 := Tryd.sizeOf91, v139 := Tryd.zeroValue91, t146 := Tryd.underlying92, a146 := Tryd.isAgg92, z146 := Tryd.sizeOf92, v146 := Tryd.zeroValue92, g1 := by kernel_rfl, g3 := by kernel_rfl, g4 := by kernel_rfl, i0 := by kernel_rfl, i3 := by kernel_rfl, i4 := by kernel_rfl, i5 := by kernel_rfl, i9 := by kernel_rfl, i21 := by kernel_rfl, i31 := by kernel_rfl, i46 := by kernel_rfl, i51 := by kernel_rfl, i105 := by kernel_rfl, i138 := by kernel_rfl, i139 := by kernel_rfl, i146 := by kernel_rfl, m1 := by kernel_rfl, s1_3 := fun w h => Go.Proofs.cell_of_shapedOpen_int (zero := #[.int .i64 0]) (t := 3) h (of_decide_eq_true (by kernel_rfl)) (by kernel_rfl) rfl (by kernel_rfl) (by kernel_rfl) Tryd.underlying3, m3 := by kernel_rfl, m4 := by kernel_rfl }
/-- .. and the two errors, and that MaxLen holds a number. -/
structure Tab2 (w : World) : Prop extends Tab w where
  es : ∃ tp p, w.var? Tryd.prog "strconv.ErrSyntax" = some #[.iface tp p]
  er : ∃ tp p, w.var? Tryd.prog "strconv.ErrRange" = some #[.iface tp p]
  mx : ∃ m, w.cell? ⟨0, 0, none⟩ = some (.int .i64 m)
theorem Tab2.below {w w' : World} (h : Tab2 w) (hb : Below w.heap.size w w') : Tab2 w' := by
  obtain ⟨⟨h1⟩, ⟨a, b, h2⟩, ⟨c, d, h3⟩, ⟨m, h4⟩⟩ := h
  exact ⟨⟨Go.Joins.var_stays layItoa.m17 h1 hb (Nat.le_refl _)⟩, ⟨a, b, Go.Joins.var_stays layAtoi.m15 h2 hb (Nat.le_refl _)⟩, ⟨c, d, Go.Joins.var_stays layAtoi.m16 h3 hb (Nat.le_refl _)⟩, ⟨m, (hb.cell (World.block_lt_of_cell? w _ h4)).trans h4⟩⟩
theorem Tab2.drewN {w : World} (h : Tab2 w) (n : Nat) : Tab2 (w.drewN n) := h.below (pw_below_drewN (Below.refl _ _) n)
/-- What readNum reads. -/
def readN (s : ByteArray) : Int × Bool := match Lib.atoiAll s.data.toList with
  | .ok v => if Lib.itoa v = s.data.toList ∧ -1000000 ≤ v ∧ v ≤ 1000000 then (v, true) else (0, false)
  | _ => (0, false)
/-- strconv.Atoi: the number and no error, or an error that is not nil. -/
theorem atoi_call (s : ByteArray) (hs : s.size ≤ 281474976710656) (w : World) (HT : Tab2 w) :
    Calls Tryd.prog 27 #[.string s] w fun e w' => ((∃ v, Lib.atoiAll s.data.toList = .ok v ∧ e = .returned (.tuple #[.int .i64 v, .nilIface])) ∨ ((∀ v, Lib.atoiAll s.data.toList ≠ .ok v) ∧ ∃ x t N, e = .returned (.tuple #[.int .i64 x, .iface t (.pointer (some ⟨N, 0, none⟩))]))) ∧ Below w.heap.size w w' := by
  cases h : Lib.atoiAll s.data.toList with
  | ok v =>
    refine (Any.strconv_Atoi_ok layAtoi s (by omega) v h w).mono ?_
    rintro e w' ⟨rfl, hw⟩
    refine ⟨.inl ⟨v, rfl, rfl⟩, ?_⟩
    rcases hw with rfl | ⟨t, rfl⟩
    · exact Below.refl _ _
    · exact bytes_below (Below.refl _ _) (Nat.le_refl _) _ t
  | «syntax» =>
    obtain ⟨tp, p, hv⟩ := HT.es
    refine (Any.strconv_Atoi_syntax_var layAtoi s hs h tp p w hv).mono ?_
    rintro e w' ⟨M, rfl, _, _, hb⟩
    exact ⟨.inr ⟨(fun v hv => by cases hv), _, _, M, rfl⟩, hb⟩
  | range =>
    obtain ⟨tp, p, hv⟩ := HT.er
    refine (Any.strconv_Atoi_range_var layAtoi s hs h tp p w hv).mono ?_
    rintro e w' ⟨M, rfl, _, _, hb⟩
    exact ⟨.inr ⟨(fun v hv => by cases hv), _, _, M, rfl⟩, hb⟩
theorem atoi_ok (s : ByteArray) (hs : s.size ≤ 281474976710656) (v : Int) (h : Lib.atoiAll s.data.toList = .ok v) (w : World) :
    Calls Tryd.prog 27 #[.string s] w fun e w' => e = .returned (.tuple #[.int .i64 v, .nilIface]) ∧ Below w.heap.size w w' := by
  refine (Any.strconv_Atoi_ok layAtoi s (by omega) v h w).mono ?_
  rintro e w' ⟨rfl, hw⟩
  refine ⟨rfl, ?_⟩
  rcases hw with rfl | ⟨t, rfl⟩
  · exact Below.refl _ _
  · exact bytes_below (Below.refl _ _) (Nat.le_refl _) _ t
theorem atoi_bad (s : ByteArray) (hs : s.size ≤ 281474976710656) (hx : ∀ v, Lib.atoiAll s.data.toList ≠ .ok v) (w : World) (HT : Tab2 w) :
    Calls Tryd.prog 27 #[.string s] w fun e w' => ∃ x t N, e = .returned (.tuple #[.int .i64 x, .iface t (.pointer (some ⟨N, 0, none⟩))]) ∧ Below w.heap.size w w' := by
  refine (atoi_call s hs w HT).mono ?_
  rintro e w' ⟨h | h, hb⟩
  · obtain ⟨v, hv, _⟩ := h
    exact absurd hv (hx v)
  · obtain ⟨_, x, t, M, rfl⟩ := h
    exact ⟨x, t, M, rfl, hb⟩
theorem readN_bad {s : ByteArray} (hx : ∀ v, Lib.atoiAll s.data.toList ≠ .ok v) : readN s = (0, false) := by
  unfold readN
  cases h : Lib.atoiAll s.data.toList with
  | ok v => exact absurd h (hx v)
  | «syntax» => rfl
  | range => rfl
theorem atoi_range {s : List UInt8} {v : Int} (h : Lib.atoiAll s = .ok v) : -9223372036854775808 ≤ v ∧ v ≤ 9223372036854775807 := by
  unfold Lib.atoiAll at h
  cases s with
  | nil => cases h
  | cons c r =>
    simp only at h
    split at h
    all_goals (first | cases h | skip)
    all_goals (repeat' split at h)
    all_goals (first | (injection h with h; subst h; omega) | cases h)
theorem split_row (w : World) (E : Nat) (xs : List ByteArray) (n : Nat) (hl : xs.length = n) (hn : n ≤ maxLen) : Kd.R Kd.string E (w.alloc (.cells (xs.map Value.string).toArray E)) w.heap.size (fun _ => True) (.slice (some ⟨w.heap.size, 0, none⟩) n n) xs := by
  subst hl
  refine Kd.R_of_own (enc := Value.string) ?_ (fun _ _ => trivial)
  have h2 := World.ownsRow_lit (base := w.heap.size) (e := E) (size := 1) w (xs.map Value.string).toArray xs.length (Nat.le_refl _) hn (by simp)
  simpa [encs] using h2
/-- strings.Split at one byte: the pieces, in a new row of their own. -/
theorem split_call (s sep : ByteArray) (hs : s.size < 4294967281) (h1 : 1 ≤ sep.size) (w : World) (HT : Tab2 w) :
    Calls Tryd.prog 18 #[.string s, .string sep] w fun e w' => ∃ v0_ : Value, e = .returned (v0_) ∧ Kd.R Kd.string 9 w' w.heap.size (fun _ => True) v0_ (Lib.splitB sep 0 (Lib.countB s sep) s) ∧ Below w.heap.size w w' := by
  obtain ⟨m, hm⟩ := HT.mx
  refine (Any.strings_Split { laySplit with } laySplit.i9 s sep m w hs hm h1).mono ?_
  rintro e w' ⟨rfl, rfl⟩
  have hlen := Lib.splitB_all sep h1 0 _ s rfl
  refine ⟨_, rfl, ?_, below_alloc (Below.refl _ _) _⟩
  have hle := Lib.countB_le sep h1 s.size s (Nat.le_refl _)
  exact split_row w 9 _ _ hlen (by simp only [maxLen]; omega)
def layJoin_ren : Go.Shelf.Ren := ⟨fun | 156 => 15 | 165 => 21 | 166 => 22 | 169 => 23 | 240 => 30 | 241 => 31 | 276 => 39 | 277 => 40 | n => n, fun | 31 => 32 | 9 => 9 | 3 => 3 | 4 => 4 | 0 => 0 | 20 => 20 | 72 => 41 | 76 => 45 | 70 => 39 | 37 => 38 | 75 => 44 | 127 => 51 | 164 => 56 | 5 => 5 | 80 => 47 | n => n, fun n => n⟩
set_option maxRecDepth 100000 in
theorem layJoin : Lays.n156 Tryd.prog layJoin_ren := { mixed := by kernel_rfl, f156 := Tryd.func15.trans (congrArg some (by kernel_rfl)), f165 := Tryd.func21.trans (congrArg some (by kernel_rfl)), f166 := Tryd.func22.trans (congrArg some (by kernel_rfl)), f169 := Tryd.func23.trans (congrArg some (by kernel_rfl)), f240 := Tryd.func30.trans (congrArg some (by kernel_rfl)), f241 := Tryd.func31.trans (congrArg some (by kernel_rfl)), f276 := Tryd.func39.trans (congrArg some (by kernel_rfl)), f277 := Tryd.func40.trans (congrArg some (by kernel_rfl)), t0 := Tryd.underlying0, a0 := Tryd.isAgg0, z0 := Tryd.sizeOf0, v0 := Tryd.zeroValue0, t3 := Tryd.underlying3, a3 := Tryd.isAgg3, z3 := Tryd.sizeOf3, v3 := Tryd.zeroValue3, t4 := Tryd.underlying4, a4 := Tryd.isAgg4, z4 := Tryd.sizeOf4, v4 := Tryd.zeroValue4, t9 := Tryd.underlying9, a9 := Tryd.isAgg9, z9 := Tryd.sizeOf9, v9 := Tryd.zeroValue9, t20 := Tryd.underlying20, a20 := Tryd.isAgg20, z20 := Tryd.sizeOf20, v20 := Tryd.zeroValue20, t31 := Tryd.underlying32, a31 := Tryd.isAgg32, z31 := Tryd.sizeOf32, v31 := Tryd.zeroValue32, t37 := Tryd.underlying38, a37 := Tryd.isAgg38, z37 := Tryd.sizeOf38, v37 := Tryd.zeroValue38, t70 := Tryd.underlying39, a70 := Tryd.isAgg39, z70 := Tryd.sizeOf39, v70 := Tryd.zeroValue39, t72 := Tryd.underlying41, a72 := Tryd.isAgg41, z72 := Tryd.sizeOf41, v72 := Tryd.zeroValue41, t75 := Tryd.underlying44, a75 := Tryd.isAgg44, z75 := Tryd.sizeOf44, v75 := Tryd.zeroValue44, t76 := Tryd.underlying45, a76 := Tryd.isAgg45, z76 := Tryd.sizeOf45, v76 := Tryd.zeroValue45, t127 := Tryd.underlying51, a127 := Tryd.isAgg51, z127 := Tryd.sizeOf51, v127 := Tryd.zeroValue51, t164 := Tryd.underlying56, a164 := Tryd.isAgg56, z164 := Tryd.sizeOf56, v164 := Tryd.zeroValue56 }
theorem layJoinX : Builder.Extra Tryd.prog layJoin_ren where
  sizeBuilder := by kernel_rfl
  liesBuilder := by kernel_rfl
  t5 := Tryd.underlying5
  a5 := Tryd.isAgg5
  z5 := Tryd.sizeOf5
  v5 := Tryd.zeroValue5
  infoByte := by kernel_rfl
  cellsByte := by kernel_rfl
  sizeByte := by kernel_rfl
  neB5 := by decide
theorem cell_spot {w : World} {b o : Nat} {t : Option Nat} {v : Value} (h : w.cell? ((⟨b, o, t⟩ : Addr).add (0 : Int).toNat) = some v) : t = none := by
  cases t with
  | none => rfl
  | some x =>
    exfalso
    revert h
    show w.cell? ⟨b, o, some x⟩ = some v → False
    unfold World.cell?
    split
    · simp
    · simp
def joinS (xs : List ByteArray) (sep : ByteArray) : ByteArray := ⟨(Lib.join (xs.map (·.data.toList)) sep.data.toList).toArray⟩
theorem join_call (A0 : Option Addr) (c0 : Nat) (xs : List ByteArray) (sep : ByteArray) (w : World) (hr : Kd.C Kd.string w A0 xs.length xs) (hc : xs.length ≤ c0) (hN : xs.length ≤ 140737488355328) (hl : (joinS xs sep).size ≤ 281474976710656) :
    Calls Tryd.prog 15 #[.slice A0 xs.length c0, .string sep] w fun e w' => e = .returned (.string (joinS xs sep)) ∧ Below w.heap.size w w' := by
  rcases xs with _ | ⟨x, r⟩
  · refine (Any.strings_Join_none layJoin layJoinX A0 c0 sep w).mono ?_
    rintro e w' ⟨rfl, rfl⟩
    exact ⟨rfl, Below.refl _ _⟩
  · obtain ⟨ad, rfl, h0⟩ := Kd.at_string hr 0 (by omega) (by simp only [List.length_cons]; omega)
    obtain ⟨b, o, t⟩ := ad
    have hst : t = none := cell_spot h0
    subst hst
    refine Any.strings_Join_48 layJoin layJoinX b o c0 (x :: r) sep w ?_ ?_ hN hc ?_
    · intro j y hj
      obtain ⟨hlt, rfl⟩ := List.getElem?_eq_some_iff.1 hj
      obtain ⟨ad, e, h⟩ := Kd.at_string hr (j : Int) (by omega) (by omega)
      cases e
      rw [show Addr.add ⟨b, o, none⟩ ((j : Int)).toNat = ⟨b, o + j, none⟩ by rw [Int.toNat_natCast]; unfold Addr.add; split <;> simp_all] at h
      rw [h, show rdOf ByteArray.empty (x :: r) (j : Int) = (x :: r)[j] by simp only [rdOf, Int.toNat_natCast]; rw [List.getD_eq_getElem?_getD, List.getElem?_eq_getElem hlt]; rfl]
    · have := World.block_lt_of_cell? w _ h0
      exact this
    · simpa [joinS, ByteArray.size] using hl
theorem tab_of_reads {W : World} {n : String} {k : IntKind} {zs : List Int} {g : Nat} {t e : TypeId} {m : Nat} (h : Lib.VarReads Tryd.prog W n (Lib.tabData k zs)) (hg : Tryd.prog.globalNamed n = some g) (hty : (Tryd.prog.globals[g]?).map (·.type) = some t) (ht : Tryd.prog.underlying t = some (.array m e)) (he : Tryd.prog.underlying e = some (.int k)) (hce : Tryd.prog.cellsOf e = 1) (hct : Tryd.prog.cellsOf t = m) : Lib.TabIs Tryd.prog W n k zs := by
  obtain ⟨g', t', cs, fuel, p, hg', ht', hvar, hd⟩ := h
  obtain rfl := Option.some.inj (hg.symm.trans hg')
  obtain rfl := Option.some.inj (hty.symm.trans ht')
  unfold Lib.TabIs
  rw [hvar, ← Lib.cells_of_tab ht he hce hct hd]
theorem iface_of_reads {W : World} {n nm : String} {d : DataW Unit} {g : Nat} {ti : TypeId} {ms : Array (String × TypeId)} (h : Lib.VarReads Tryd.prog W n (.iface nm d)) (hg : Tryd.prog.globalNamed n = some g) (hty : (Tryd.prog.globals[g]?).map (·.type) = some ti) (hi : Tryd.prog.underlying ti = some (.interface ms)) : ∃ tp p, W.var? Tryd.prog n = some #[.iface tp p] := by
  obtain ⟨g', t', cs, fuel, p, hg', ht', hvar, hd⟩ := h
  obtain rfl := Option.some.inj (hg.symm.trans hg')
  obtain rfl := Option.some.inj (hty.symm.trans ht')
  obtain ⟨_, u, v, hc, _⟩ := iface_of_trod hi hd
  refine ⟨u, v, ?_⟩
  rw [hvar]
  cases cs
  simp_all
theorem tab_of_laid {W : World} {l : List (String × DataW Unit)} (hL : laidMet Tryd.prog l W) (h10 : ("internal/strconv.uint64pow10", (Lib.tabData .u64 Lib.pow10Tab : DataW Unit)) ∈ l) : Tab W :=
  ⟨tab_of_reads (Lib.laidMet.reads hL h10) layItoa.m17 (by kernel_rfl) Tryd.underlying84 Tryd.underlying70 (by kernel_rfl) (by kernel_rfl)⟩
/-- A start that fits: the laid world. -/
theorem witness_row_zip {H : Type} {enc : TypeId × Value → H} {C : Checked} {os : Os} {f : FuncId} {fn : Func} {s : OpenSpec} {conds : List PathCond} {apart : Bool} {laid : List (String × DataW Unit)} (modest : Bool) (w0 : World) (args : Array Value) (hos : w0.os = os)
    (hsh : (w0.forCall (fun _ _ => 0) ⟨#[], args, []⟩).Shaped C.prog) (hok : Input.okWideB C.prog (w0.forCall (fun _ _ => 0) ⟨#[], args, []⟩) f ⟨#[], args, []⟩ = true)
    (hrow : s.preRow enc C.prog fn conds apart laid (w0.forCall (fun _ _ => 0) ⟨#[], args, []⟩).memory args) :
    ∃ (w : World) (tape : Tape) (i : Input), w.os = os ∧ (w.forCall tape i).Shaped C.prog ∧ i.vars = [] ∧ Input.okWide C.prog (w.forCall tape i) .any w.heap.size f i ∧
      s.preRow enc C.prog fn conds apart laid (w.forCall tape i).memory i.args ∧ ({ modest := modest } : Assume).holds C.prog (lone (Frame.enter C.prog f i.args .normal) [] (w.forCall tape i)) :=
  ⟨w0, fun _ _ => 0, ⟨#[], args, []⟩, hos, hsh, (Input.okWide_of_okWideB (base := 0) hok).1, (Input.okWide_of_okWideB hok).2, hrow, by
    simp only [Assume.holds]
    exact ⟨by simp, by simp, fun _ => Modest.zero, by simp, by simp⟩⟩
theorem tab2_of_laid {W : World} {l : List (String × DataW Unit)} (hL : laidMet Tryd.prog l W) (hs : W.ShapedOpen Tryd.prog) (h10 : ("internal/strconv.uint64pow10", (Lib.tabData .u64 Lib.pow10Tab : DataW Unit)) ∈ l) {n1 n2 : String} {d1 d2 : DataW Unit} (h1 : ("strconv.ErrSyntax", .iface n1 d1) ∈ l) (h2 : ("strconv.ErrRange", .iface n2 d2) ∈ l) : Tab2 W :=
  { tab_of_laid hL h10 with
    es := iface_of_reads (Lib.laidMet.reads hL h1) layAtoi.m15 (by kernel_rfl) Tryd.underlying44
    er := iface_of_reads (Lib.laidMet.reads hL h2) layAtoi.m16 (by kernel_rfl) Tryd.underlying44
    mx := laySplit.s1_3 W hs }
end Go.Proofs.YtbdfidnldaghbaaDoor.Lay
