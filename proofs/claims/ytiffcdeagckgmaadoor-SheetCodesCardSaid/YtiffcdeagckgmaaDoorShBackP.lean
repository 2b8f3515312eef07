/- sheets' bytes there and back, in plain Lean. -/
import Derived.Test.YtiffcdeagckgmaaDoorShDec2
namespace Go.Proofs.YtiffcdeagckgmaaDoor
set_option linter.unusedSimpArgs false
set_option linter.unusedVariables false
open Go.RowKit

theorem takeD_app {x z : List UInt8} {ok : Bool} {k : Nat} (h : x.length = k) : takeD k ⟨x ++ z, ok⟩ = (x, ⟨z, ok⟩) := by
  unfold takeD
  rw [if_pos (by simp [h])]
  subst h
  simp
theorem u8_nat {n : Nat} (h : n < 256) : (u8 (n : Int)).toNat = n := by
  have := u8_toNat (n : Int)
  omega
theorem u8_int {z : Int} (h0 : 0 ≤ z) (h : z < 256) : ((u8 z).toNat : Int) = z := by
  have := u8_toNat z
  omega
theorem stepP_enc {p : PC} (h : pcOk p) (acc : List PC) (z : List UInt8) : stepP (acc, ⟨pieceB p ++ z, true⟩) = (acc ++ [p], ⟨z, true⟩) := by
  obtain ⟨h1, h2, h3, h4, -⟩ := h
  unfold stepP
  have e1 : pieceB p ++ z = [u8 (p.x / 256), u8 p.x, u8 p.s.size] ++ (p.s.data.toList ++ z) := by simp [pieceB]
  have e2 : takeD 3 ⟨pieceB p ++ z, true⟩ = ([u8 (p.x / 256), u8 p.x, u8 p.s.size], ⟨p.s.data.toList ++ z, true⟩) := by rw [e1]; exact takeD_app rfl
  have e3 : (at8 [u8 (p.x / 256), u8 p.x, u8 p.s.size] 2).toNat = p.s.size := u8_nat (by omega)
  have e4 : takeD p.s.size ⟨p.s.data.toList ++ z, true⟩ = (p.s.data.toList, ⟨z, true⟩) := takeD_app rfl
  rw [if_pos rfl, e2]
  simp only [e3, e4]
  have a0 : ((at8 [u8 (p.x / 256), u8 p.x, u8 p.s.size] 0).toNat : Int) = p.x / 256 := u8_int (by omega) (by omega)
  have a1 : ((at8 [u8 (p.x / 256), u8 p.x, u8 p.s.size] 1).toNat : Int) = p.x % 256 := u8_toNat p.x
  have hpe : (⟨(((at8 [u8 (p.x / 256), u8 p.x, u8 p.s.size] 0).toNat * 256 + (at8 [u8 (p.x / 256), u8 p.x, u8 p.s.size] 1).toNat : Nat) : Int), ⟨p.s.data.toList.toArray⟩⟩ : PC) = p := by
    have hx : (((at8 [u8 (p.x / 256), u8 p.x, u8 p.s.size] 0).toNat * 256 + (at8 [u8 (p.x / 256), u8 p.x, u8 p.s.size] 1).toNat : Nat) : Int) = p.x := by omega
    rw [hx]
  rw [hpe]
theorem rdPs_enc {px : List PC} (h : ∀ p ∈ px, pcOk p) (z : List UInt8) : ∀ k, k ≤ px.length → rdPs k ([], ⟨px.flatMap pieceB ++ z, true⟩) = (px.take k, ⟨(px.drop k).flatMap pieceB ++ z, true⟩)
  | 0, _ => by simp [rdPs]
  | k + 1, hk => by
    have ih := rdPs_enc h z k (by omega)
    obtain ⟨p, hp⟩ : ∃ p, px[k]? = some p := ⟨_, List.getElem?_eq_getElem (by omega)⟩
    have e1 : px.drop k = p :: px.drop (k + 1) := by
      obtain ⟨hl, e⟩ := List.getElem?_eq_some_iff.1 hp
      rw [List.drop_eq_getElem_cons hl, e]
    have e2 : px.take (k + 1) = px.take k ++ [p] := by rw [List.take_add_one, hp]; rfl
    show stepP (rdPs k _) = _
    rw [ih, e1, List.flatMap_cons, List.append_assoc, stepP_enc (h p (List.mem_of_getElem? hp)), e2]
theorem mkB_bits {x : LN} (h : 1 ≤ x.kind ∧ x.kind ≤ 3) : (((u8 (mkB x)).toNat % 4 : Nat) : Int) = x.kind ∧ ((u8 (mkB x)).toNat / 4 % 2 == 1) = x.first ∧ ((u8 (mkB x)).toNat / 8 % 2 == 1) = x.last ∧ ((u8 (mkB x)).toNat / 16 % 2 == 1) = x.over := by
  have hb := mkB_bd h
  have e := u8_int hb.1 (by omega)
  obtain ⟨m, hm⟩ : ∃ q, (u8 (mkB x)).toNat = q := ⟨_, rfl⟩
  rw [hm] at e ⊢
  unfold mkB at e
  rw [addB_all] at e
  obtain ⟨k, f, l, o, v⟩ := x
  simp only at h e ⊢
  obtain ⟨h1, h2⟩ := h
  refine ⟨?_, ?_, ?_, ?_⟩
  · cases f <;> cases l <;> cases o <;> simp at e <;> omega
  · cases f <;> cases l <;> cases o <;> simp at e ⊢ <;> omega
  · cases f <;> cases l <;> cases o <;> simp at e ⊢ <;> omega
  · cases f <;> cases l <;> cases o <;> simp at e ⊢ <;> omega
theorem lineD_enc {r : LN × List PC} (h : lineOk r) (hp : ∀ p ∈ r.2, pcOk p) (z : List UInt8) : SameR (lineD ⟨lineB r ++ z, true⟩).1 r ∧ (lineD ⟨lineB r ++ z, true⟩).2 = ⟨z, true⟩ := by
  obtain ⟨h1, h2, h3⟩ := h
  have e1 : lineB r ++ z = [u8 (mkB r.1), u8 r.2.length] ++ (r.2.flatMap pieceB ++ z) := by simp [lineB]
  have e2 : takeD 2 ⟨lineB r ++ z, true⟩ = ([u8 (mkB r.1), u8 r.2.length], ⟨r.2.flatMap pieceB ++ z, true⟩) := by rw [e1]; exact takeD_app rfl
  have e3 : (at8 [u8 (mkB r.1), u8 r.2.length] 1).toNat = r.2.length := u8_nat (by omega)
  have e4 := rdPs_enc hp z r.2.length (Nat.le_refl _)
  rw [List.take_length, List.drop_length, List.flatMap_nil, List.nil_append] at e4
  obtain ⟨b1, b2, b3, b4⟩ := mkB_bits ⟨h1, h2⟩
  unfold lineD
  rw [e2]
  simp only [e3, e4]
  exact ⟨⟨b1, b2, b3, b4, rfl⟩, trivial⟩
theorem rdLs_enc {l : List (LN × List PC)} (h : ∀ r ∈ l, lineOk r) (hp : ∀ r ∈ l, ∀ p ∈ r.2, pcOk p) (z : List UInt8) : ∀ k, k ≤ l.length → RSame (rdLs k ([], ⟨l.flatMap lineB ++ z, true⟩)).1 (l.take k) ∧ (rdLs k ([], ⟨l.flatMap lineB ++ z, true⟩)).2 = ⟨(l.drop k).flatMap lineB ++ z, true⟩
  | 0, _ => ⟨by simpa [rdLs] using RSame.refl [], by simp [rdLs]⟩
  | k + 1, hk => by
    obtain ⟨i1, i2⟩ := rdLs_enc h hp z k (by omega)
    obtain ⟨r, hr⟩ : ∃ p, l[k]? = some p := ⟨_, List.getElem?_eq_getElem (by omega)⟩
    have e1 : l.drop k = r :: l.drop (k + 1) := by
      obtain ⟨hl, e⟩ := List.getElem?_eq_some_iff.1 hr
      rw [List.drop_eq_getElem_cons hl, e]
    have e2 : l.take (k + 1) = l.take k ++ [r] := by rw [List.take_add_one, hr]; rfl
    have hm := List.mem_of_getElem? hr
    rw [e1, List.flatMap_cons, List.append_assoc] at i2
    obtain ⟨d1, d2⟩ := lineD_enc (h r hm) (hp r hm) ((l.drop (k + 1)).flatMap lineB ++ z)
    have e3 := rdLs_more rfl i2 rfl
    rw [e3, e2]
    exact ⟨i1.snoc d1, d2⟩
/-- reading a sheet's bytes, whatever stands behind them -/
theorem read_enc {num : Int} {l : List (LN × List PC)} (h : MayP num l) (z : List UInt8) : decN (encB num l ++ z) = num ∧ RSame (decS (encB num l ++ z)).1 l ∧ (decS (encB num l ++ z)).2 = ⟨z, true⟩ := by
  obtain ⟨⟨h1, h2, h3⟩, h4, h5⟩ := h
  have e1 : encB num l ++ z = [u8 num, u8 l.length] ++ (l.flatMap lineB ++ z) := by simp [encB]
  have e2 : takeD 2 ⟨encB num l ++ z, true⟩ = ([u8 num, u8 l.length], ⟨l.flatMap lineB ++ z, true⟩) := by rw [e1]; exact takeD_app rfl
  have e3 : (at8 [u8 num, u8 l.length] 1).toNat = l.length := u8_nat (by omega)
  have e0 : ((at8 [u8 num, u8 l.length] 0).toNat : Int) = num := u8_int (by omega) (by omega)
  have hp : ∀ r ∈ l, ∀ p ∈ r.2, pcOk p := fun r hr p hpr => h5 p (List.mem_flatMap.2 ⟨r, hr, hpr⟩)
  obtain ⟨i1, i2⟩ := rdLs_enc h4 hp z l.length (Nat.le_refl _)
  rw [List.take_length] at i1
  rw [List.drop_length, List.flatMap_nil, List.nil_append] at i2
  unfold decN decS
  rw [e2]
  simp only [e3]
  exact ⟨e0, i1, i2⟩
theorem okD_enc {num : Int} {l : List (LN × List PC)} (h : GoodP num l) : OkD (encB num l) := by
  obtain ⟨i1, i2, i3⟩ := read_enc h.1 []
  rw [List.append_nil] at i1 i2 i3
  refine ⟨by rw [i1]; exact h.same i2.symm, by rw [i3], by rw [i1]; exact encB_same i2 num⟩
theorem decN_enc {num : Int} {l : List (LN × List PC)} (h : GoodP num l) : decN (encB num l) = num := by have := (read_enc h.1 []).1; rwa [List.append_nil] at this
theorem decS_enc {num : Int} {l : List (LN × List PC)} (h : GoodP num l) : RSame (decS (encB num l)).1 l := by have := (read_enc h.1 []).2.1; rwa [List.append_nil] at this
/-- no sheet's bytes are the beginning of another's -/
theorem okD_apart {y z : List UInt8} (h1 : OkD y) (h2 : OkD (y ++ z)) : z = [] := by
  obtain ⟨g1, -, e1⟩ := h1
  obtain ⟨g2, -, e2⟩ := h2
  have r1 := (read_enc g1.1 z).2.2
  rw [e1] at r1
  have r2 := (read_enc g2.1 []).2.2
  rw [List.append_nil, e2, r1] at r2
  simpa using r2
theorem okD_len {y : List UInt8} (h : OkD y) : 2 ≤ y.length := by
  rw [← h.2.2]
  simp [encB]
theorem okD_more {y : List UInt8} (h : OkD y) (b : UInt8) : ¬ OkD (y ++ [b]) := fun h2 => by have := okD_apart h h2; cases this
theorem okD_less {y : List UInt8} (h : OkD y) : ¬ OkD (y.take (y.length - 1)) := fun h2 => by
  have hl := okD_len h
  have e : y.take (y.length - 1) ++ y.drop (y.length - 1) = y := List.take_append_drop ..
  have := okD_apart (z := y.drop (y.length - 1)) h2 (by rw [e]; exact h)
  have h3 : (y.drop (y.length - 1)).length = 0 := by rw [this]; rfl
  rw [List.length_drop] at h3
  omega
end Go.Proofs.YtiffcdeagckgmaaDoor
