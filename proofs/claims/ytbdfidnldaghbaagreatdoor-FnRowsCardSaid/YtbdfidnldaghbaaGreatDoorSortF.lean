/- slices.SortFunc at rows whose elements are one cell each and lead to rows of their own: the library's contract, told of a row of a call's own whose elements lie apart. No function of the program is in sight here. -/
import Derived.Test.YtbdfidnldaghbaaGreatDoorWMore
import Derived.Test.YtbdfidnldaghbaaGreatDoorWApart
import Derived.Shelf.SlSortCmp.NoneTotal
import Derived.Lib.OwnBridge
set_option linter.unusedVariables false
set_option linter.unusedSimpArgs false
namespace Go.Proofs.YtbdfidnldaghbaaGreatDoor.Own
open Go Go.RowKit Go.Lib Go.Sort Go.Shelf Go.Proofs.YtbdfidnldaghbaaGreatDoorW.PrintWords Go.Proofs.YtbdfidnldaghbaaGreatDoorW.PrintLast Go.Proofs.YtbdfidnldaghbaaGreatDoorW.PrintMore
theorem heap_sortWorld {enc : Nat → Value} {w : World} {g m : Nat} {dk : Array Nat} {os : Array Obj} {k : Nat} (hk : k < w.heap.size) (hne : k ≠ g) : (sortWorld enc w g 0 m dk os).heap[k]? = w.heap[k]? := by
  unfold sortWorld
  rw [heap_grow_old _ _ (by simpa using hk)]
  simp [putRow, mapBlock, Sort.ahead, Array.getElem?_modify, show g ≠ k by omega]
theorem below_sortWorld {enc : Nat → Value} {B : Nat} {w0 w : World} {g m : Nat} {dk : Array Nat} {os : Array Obj} (h : Below B w0 w) (hg : B ≤ g) (hB : B ≤ w.heap.size) : Below B w0 (sortWorld enc w g 0 m dk os) := by
  refine h.trans ⟨rfl, rfl, rfl, ?_, fun k hk => heap_sortWorld (by omega) (by omega)⟩
  unfold sortWorld
  simp
theorem nodup_at {l : List Nat} (h : l.Nodup) {j i : Nat} (hj : l[j]? = some i) : l.idxOf i = j := by
  obtain ⟨hlt, rfl⟩ := List.getElem?_eq_some_iff.1 hj
  exact h.idxOf_getElem j hlt
section
variable {P : Program} {ρ : Ren} {α : Type} {d : Kd α}
theorem sortF_row (L : SlLaysF.n6 P ρ) (hone : d.sz = 1) (e g : Nat) (cmp : α → α → Int) (hO : SWO fun x y : α => decide (cmp x y < 0))
    (eg : ∀ args w, (callFunc g args).run P w = .ok (.enter g args) w)
    (xs : List α) (hc : ∀ (W : World) (x y : α) (cx cy : Value), x ∈ xs → y ∈ xs → d.K W x [cx] → d.K W y [cy] → Calls P g #[cx, cy] W fun e w' => e = .returned (.int .i64 (cmp x y)) ∧ ∃ q, w' = W.drewN q)
    (w w1 : World) (v : Value) (HO : Kd.S d e w1 w.heap.size (fun _ => True) v xs) (HB : Below w.heap.size w w1) (hl : xs.length ≤ 1099511627776) :
    Calls P (ρ.f 6) #[v, .func (.func g) #[] #[]] w1 fun e_ w' => e_ = .returned (.tuple #[]) ∧ ∃ ys : List α, ys.Perm xs ∧ ys.Pairwise (fun x y => ¬ cmp y x < 0) ∧ Kd.S d e w' w.heap.size (fun _ => True) v ys ∧ Below w.heap.size w w' := by
  obtain ⟨A, c, rfl⟩ := Kd.R_slice (Kd.S_R HO)
  rcases xs with _ | ⟨x0, xt⟩
  · refine (AnyF.slices_SortFunc_none { L with } A c (.func (.func g) #[] #[]) w1).mono ?_
    rintro e_ w' ⟨rfl, rfl⟩
    exact ⟨rfl, [], List.Perm.refl _, List.Pairwise.nil, HO, HB⟩
  · generalize hxs : x0 :: xt = xs at *
    have hn0 : 0 < xs.length := by rw [← hxs]; simp
    obtain ⟨f, h0, inner, hown, hr⟩ := HO
    have hsz : (Kd.tag f d).sz = 1 := hone
    rw [List.length_zipIdx] at hown
    rw [hsz] at hown hr
    have hil : inner.length = xs.length := by have := hr.1; rw [List.length_zipIdx] at this; omega
    let ix : Nat → Nat := fun i => if i < xs.length then i else 0
    have hix : ∀ i, ix i < xs.length := fun i => by simp only [ix]; split <;> omega
    let X : Nat → α := fun i => xs[ix i]'(hix i)
    let enc : Nat → Value := fun i => inner[ix i]'(by rw [hil]; exact hix i)
    let cf : Nat → Nat → Int := fun i j => cmp (X i) (X j)
    have hinner : inner = (List.range xs.length).map enc := by
      apply List.ext_getElem (by simp [hil])
      intro i h1 h2
      simp [enc, ix, show i < xs.length by omega]
    have hM : ∀ i, d.M w1 w.heap.size (fun k => (True ∧ some k ≠ (Value.slice A xs.length c).ownBlock) ∧ f k = ix i) (X i) [enc i] := fun i => by
      have h := hr.2 (ix i) (X i, ix i) (Kd.zip_at (List.getElem?_eq_getElem (hix i)))
      have e1 : (inner.drop (ix i * 1)).take 1 = [enc i] := by
        rw [Nat.mul_one, List.drop_eq_getElem_cons (by rw [hil]; exact hix i)]
        rfl
      rw [e1] at h
      exact h
    have hOf : SWO (ltOf cf) := ⟨fun x => hO.irrefl (X x), fun x y z => hO.trans (X x) (X y) (X z), fun x y z => hO.ntrans (X x) (X y) (X z)⟩
    rw [hinner] at hown
    obtain ⟨b, cap, hv, hbg, hgl, hncap, hcm, hlen, hH⟩ := Lib.holds_of_ownsRow hown (by intro hv; injection hv with _ h2 _; omega)
    injection hv with hA _ hcc
    subst hA; subst hcc
    have hsize : (List.range xs.length).toArray.size = xs.length := by simp
    have hsame : ∀ (m : Nat) (dk : Array Nat) (os : Array Obj) (i : Nat), d.M (sortWorld enc w1 b 0 m dk os) w.heap.size (fun k => (True ∧ some k ≠ (Value.slice (some ⟨b, 0, none⟩) xs.length c).ownBlock) ∧ f k = ix i) (X i) [enc i] := fun m dk os i =>
      Kd.M_step (hM i) (fun k hk hlt => heap_sortWorld hlt (fun he => hk.1.2 (by rw [he]; rfl)))
    have h := Any.slices_SortFunc L enc (fun i => d.K_one (d.K_of_M (hM i)) _ (List.mem_singleton.2 rfl)) cf hOf g #[] b 0 c (List.range xs.length).toArray w1 eg
      (by
        intro m os dk hs x y
        refine (hc (sortWorld enc w1 b 0 m dk os) (X x) (X y) (enc x) (enc y) (List.getElem_mem _) (List.getElem_mem _) (d.K_of_M (hsame m dk os x)) (d.K_of_M (hsame m dk os y))).mono ?_
        rintro e_ w' ⟨rfl, q, rfl⟩
        exact ⟨rfl, q, #[], by rw [grow_empty]⟩) hH hgl (by rw [hsize]; omega)
    rw [hsize] at h
    refine h.mono ?_
    rintro e_ w' ⟨rfl, d', nn, os, hp, hs, rfl⟩
    obtain ⟨hds, _, hperm⟩ := hp
    rw [hsize] at hds
    have hfull : d'.toList.Perm (List.range xs.length) := by
      have e1 : d'.extract 0 xs.length = d' := by rw [← hds]; simp
      have e2 : (List.range xs.length).toArray.extract 0 xs.length = (List.range xs.length).toArray := by
        have := Array.extract_size (xs := (List.range xs.length).toArray)
        rwa [hsize] at this
      rw [e1, e2] at hperm
      exact hperm
    have hnd : d'.toList.Nodup := hfull.nodup_iff.2 List.nodup_range
    have hdl : d'.toList.length = xs.length := by rw [hfull.length_eq, List.length_range]
    have hlt : ∀ i ∈ d'.toList, i < xs.length := fun i hi => List.mem_range.1 (hfull.mem_iff.1 hi)
    have hXs : (List.range xs.length).map X = xs := by
      apply List.ext_getElem (by simp)
      intro i h1 h2
      simp [X, ix, h2]
    have hown' := Lib.ownsRow_putRow (q := nn) (k := xs.length) (ys := d'.toList) hown hdl (Nat.le_refl _)
    rw [List.take_of_length_le (by omega)] at hown'
    have hlast : (sortWorld enc w1 b 0 nn d' os).ownsRow w.heap.size e 1 (.slice (some ⟨b, 0, none⟩) xs.length c) xs.length (d'.toList.map enc) := by
      unfold sortWorld
      exact own_move hown' (fun k hk => heap_grow_old _ _ (own_lt hown' k hk))
    refine ⟨rfl, d'.toList.map X, ?_, ?_, ⟨fun k => d'.toList.idxOf (f k), h0, d'.toList.map enc, ?_, ?_⟩, below_sortWorld HB hbg HB.size⟩
    · have := hfull.map X
      rwa [hXs] at this
    · rw [List.pairwise_map, List.pairwise_iff_getElem]
      intro i j hi hj hij
      have := hs i j (Nat.zero_le _) hij (by rw [← hdl]; exact hj)
      rw [getElem!_pos d' i (by simpa using hi), getElem!_pos d' j (by simpa using hj)] at this
      simpa [ltOf, cf] using this
    · rw [List.length_zipIdx, List.length_map, hdl, show (Kd.tag (fun k => d'.toList.idxOf (f k)) d).sz = 1 from hone]
      exact hlast
    · refine ⟨by rw [List.length_zipIdx, List.length_map, List.length_map, show (Kd.tag (fun k => d'.toList.idxOf (f k)) d).sz = 1 from hone, Nat.mul_one], fun j p hj => ?_⟩
      rw [List.getElem?_zipIdx, Nat.zero_add, List.getElem?_map] at hj
      cases hd : d'.toList[j]? with
      | none => rw [hd] at hj; cases hj
      | some i =>
        rw [hd] at hj
        have hj' : p = (X i, j) := by simpa using hj.symm
        subst hj'
        obtain ⟨hjl, hdi⟩ := List.getElem?_eq_some_iff.1 hd
        have hi : i < xs.length := hlt i (by rw [← hdi]; exact List.getElem_mem _)
        have hxi : ix i = i := if_pos hi
        have e1 : ((d'.toList.map enc).drop (j * (Kd.tag f d).sz)).take (Kd.tag f d).sz = [enc i] := by
          rw [hsz, Nat.mul_one, List.drop_eq_getElem_cons (by rw [List.length_map]; exact hjl), List.getElem_map, hdi]
          rfl
        have e2 : (Kd.tag (fun k => d'.toList.idxOf (f k)) d).sz = (Kd.tag f d).sz := rfl
        rw [e2, e1]
        have hm := hsame nn d' os i
        rw [hxi] at hm
        exact d.M_mono (fun k hk => ⟨hk.1, by show d'.toList.idxOf (f k) = j; rw [hk.2]; exact nodup_at hnd hd⟩) hm
end
end Go.Proofs.YtbdfidnldaghbaaGreatDoor.Own
