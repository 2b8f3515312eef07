/- The walk over object.Blocks and object.Frame. -/
import Derived.Test.YthmjkgpfnpdddaaShaSmall
import Derived.Test.YthmjkgpfnpdddaaObjCol
namespace Go.Proofs.Ythmjkgpfnpdddaa
set_option linter.unusedSimpArgs false
set_option linter.unusedVariables false
open Go.RowKit Go.ChangeShapes Go.WideShapes Go.Sort

theorem chk_first (l : List UInt8) : first4 l = chk l := rfl
/-- blocks and an error -/
def FrmP (w : World) (l : List Blk) (er : Int) (e : Ending) (w' : World) : Prop :=
  ∃ A n c, e = .returned (.tuple #[.slice A n c, .int .i64 er]) ∧ n = l.length ∧ n ≤ c ∧ c ≤ maxLen ∧ Sl w' w'.heap.size 128 A n (bsv l) ∧ Below w.heap.size w w'
theorem FrmP.no {w w' : World} {er : Int} (h : Below w.heap.size w w') : FrmP w [] er (.returned (.tuple #[.slice none 0 0, .int .i64 er])) w' :=
  ⟨none, 0, 0, rfl, rfl, Nat.le_refl _, by simp [maxLen], Sl.nil, h⟩
theorem blocks_any (n : Int) (w : World) (h0 : -9223372036854775808 ≤ n) (h1 : n ≤ 9223372036854775807) : Calls Try.prog 20 #[.int .i64 n] w fun e w' => e = .returned (.int .i64 (blocksN n)) ∧ w = w' := by
  have hw : (n < 0) ∨ (0 ≤ n ∧ 1000 < n) ∨ (0 ≤ n ∧ n ≤ 1000) := by omega
  rcases hw with h | ⟨h, h'⟩ | ⟨h, h'⟩
  · have e : blocksN n = 0 := by unfold blocksN; rw [if_pos (.inl h)]
    go_enter Try.func20, Try.ntmps20
    go_wp2
    go_ret
    exact ⟨ret_int (a := 0) e.symm, rfl⟩
  · have e : blocksN n = 0 := by unfold blocksN; rw [if_pos (.inr h')]
    go_enter Try.func20, Try.ntmps20
    go_wp2
    go_ret
    exact ⟨ret_int (a := 0) e.symm, rfl⟩
  · have e : blocksN n = (n + 6) / 128 + 1 := by unfold blocksN; rw [if_neg (by omega)]
    have w1 : IntKind.i64.wrap (3 + n) = 3 + n := wrap_small _ (by omega) (by omega)
    have w2 : IntKind.i64.wrap (3 + n + 4) = 3 + n + 4 := wrap_small _ (by omega) (by omega)
    have w3 : IntKind.i64.wrap (3 + n + 4 - 1) = 3 + n + 4 - 1 := wrap_small _ (by omega) (by omega)
    go_enter Try.func20, Try.ntmps20
    go_wp2
    go_ret
    exact ⟨ret_int (a := (3 + n + 4 - 1) / 128 + 1) (by rw [e]; congr 2; omega), rfl⟩
theorem rblocks_any (n : Int) (w : World) (h0 : -9223372036854775808 ≤ n) (h1 : n ≤ 9223372036854775807) : Calls Try.prog 21 #[.int .i64 n] w fun e w' => e = .returned (.int .i64 (blocksN n)) ∧ w = w' := by
  have hw : (n < 0) ∨ (0 ≤ n ∧ 1000 < n) ∨ (0 ≤ n ∧ n ≤ 1000) := by omega
  rcases hw with h | ⟨h, h'⟩ | ⟨h, h'⟩
  · have e : blocksN n = 0 := by unfold blocksN; rw [if_pos (.inl h)]
    go_enter Try.func21, Try.ntmps21
    go_wp2
    go_ret
    exact ⟨ret_int (a := 0) e.symm, rfl⟩
  · have e : blocksN n = 0 := by unfold blocksN; rw [if_pos (.inr h')]
    go_enter Try.func21, Try.ntmps21
    go_wp2
    go_ret
    exact ⟨ret_int (a := 0) e.symm, rfl⟩
  · have e : blocksN n = (n + 6) / 128 + 1 := by unfold blocksN; rw [if_neg (by omega)]
    have w1 : IntKind.i64.wrap (n + 7) = n + 7 := wrap_small _ (by omega) (by omega)
    have w2 : IntKind.i64.wrap (n + 7 + 127) = n + 7 + 127 := wrap_small _ (by omega) (by omega)
    go_enter Try.func21, Try.ntmps21
    go_wp2
    go_ret
    exact ⟨ret_int (a := (n + 7 + 127) / 128) (by rw [e]; omega), rfl⟩
theorem elemC : Elem Try.prog 5 1 1 := elem_of (z := .int .u8 0) (by kernel_rfl) rfl (by decide)
theorem own_lit {W : World} {base g n : Nat} {cs : List Value} {t : TypeId} (hb : base ≤ g) (h : W.heap[g]? = some (.cells cs.toArray t)) (hn : cs.length = n) (hm : n ≤ maxLen) : W.ownsRow base t 1 (.slice (some ⟨g, 0, none⟩) n n) n cs :=
  ⟨by rw [hn, Nat.mul_one], .inr ⟨g, n, cs.toArray, rfl, hb, h, Nat.le_refl _, hm, by simp [hn], by rw [Nat.mul_one, ← hn]; exact List.take_length⟩⟩
theorem ob_cells {kind : Int} {n : Nat} (h1 : 1 ≤ kind) (h2 : kind ≤ 6) (h3 : n ≤ 1000) : (bvs (obHead kind n)).toArray = #[Value.int .u8 kind, Value.int .u8 ((n : Int) / 256), Value.int .u8 ((n : Int) % 256)] := by
  simp only [obHead, bvs, List.map_cons, List.map_nil, bv_u8]
  rw [Int.emod_eq_of_lt (by omega) (by omega), Int.emod_eq_of_lt (by omega) (by omega)]
attribute [-go_sem] Builtin.append_
theorem frame_no {kind : Int} {A : Option Addr} {n c : Nat} (h : kind < 1 ∨ (1 ≤ kind ∧ 6 < kind) ∨ (1 ≤ kind ∧ kind ≤ 6 ∧ 1000 < n)) (w : World) : Calls Try.prog 14 #[.int .i64 kind, .slice A n c] w (FrmP w [] 1) := by
  rcases h with h | ⟨h, h2⟩ | ⟨h, h2, h3⟩
  all_goals
    go_enter Try.func14, Try.ntmps14
    go_wp2
    go_ret2
    exact FrmP.no (Below.refl _ _)
set_option maxHeartbeats 8000000 in
set_option maxRecDepth 100000 in
theorem frame_yes {kind : Int} {A : Option Addr} {n c B : Nat} {body : List UInt8} (h1 : 1 ≤ kind) (h2 : kind ≤ 6) (h3 : n ≤ 1000) (hl : body.length = n) (w : World) (hs : Sl w B 1 A n (bvs body)) (hB : B ≤ w.heap.size) :
    Calls Try.prog 14 #[.int .i64 kind, .slice A n c] w (FrmP w (cutB (obAll kind body)) 0) := by
  have hoc := ob_cells h1 h2 h3
  have htx : bvs (obHead kind n) ++ bvs body = bvs (obText kind body) := by unfold obText; rw [hl, bvs_append]
  have htl := obText_len kind body
  have hhl : (obHead kind n).length = 3 := rfl
  rw [hl] at htl
  have hall : obText kind body ++ first4 (obText kind body) = obAll kind body := rfl
  have hal := obAll_len kind body
  rw [hl] at hal
  obtain ⟨hd, hhd⟩ : ∃ q, obHead kind n = q := ⟨_, rfl⟩
  rw [hhd] at hoc htx hhl
  obtain ⟨tx, htx'⟩ : ∃ q, obText kind body = q := ⟨_, rfl⟩
  rw [htx'] at htx htl hall
  obtain ⟨al, hal'⟩ : ∃ q, obAll kind body = q := ⟨_, rfl⟩
  rw [hal'] at hall hal ⊢
  clear hhd htx' hal'
  have HT := Lib.hid (And.intro htx (And.intro hall hal))
  clear htx hall hal
  go_enter Try.func14, Try.ntmps14
  go_upto_region 4 with (fail)
  have own0 := own_lit (W := w.alloc (.cells (bvs hd).toArray 5)) (base := w.heap.size) (n := 3) (cs := bvs hd) (t := 5) (Nat.le_refl _) (heap_alloc_new _ _) (by rw [bvs_len, hhl]) (by simp [maxLen])
  have hbA : Below w.heap.size w (w.alloc (.cells (bvs hd).toArray 5)) := (Below.refl _ _).alloc (Nat.le_refl _) _
  have hsA := hs.below (hbA.mono hB)
  rw [hoc] at own0 hbA hsA
  go_wp2_with (first
    | (at_builtin; go_loud (refine wpList_app _ rfl (.tmp 28) (.tmp 29) 22 rfl (base := w.heap.size) Try.underlying22 elemC rfl own0 rfl hsA (oneCell_bvs _) (by simp only [maxLen]; omega) (by omega) (by simp) ?_; intro A30 c30 w30 hown hg hb hat))
    | fail)
  rw [HT.out.1] at hown
  have hBX := hbA.trans (hb.mono (Nat.le_refl _))
  clear hoc own0 hbA hsA hg hb hat
  obtain ⟨m, hm⟩ : ∃ m, 3 + n = m := ⟨_, rfl⟩
  rw [hm] at hown htl
  rw [hm]
  have hck := check_any (l := tx) (A := A30) (c := c30) (B := w30.heap.size) (by omega) w30 (Nat.le_refl _) (by rw [htl]; exact Sl.of_own hown)
  rw [htl] at hck
  have hF4 := first4_len tx
  obtain ⟨F, hFe⟩ : ∃ l, first4 tx = l := ⟨_, rfl⟩
  rw [hFe] at hck hF4
  have HF := Lib.hid (And.intro HT.out.2.1 HT.out.2.2)
  rw [hFe] at HF
  clear hFe HT
  refine Calls.mono hck ?_
  rintro e W4 ⟨rfl, hb4⟩
  obtain ⟨y4, hy⟩ : ∃ z, zs 4 = z := ⟨_, rfl⟩
  have hyl : y4.length = 4 := by rw [← hy]; rfl
  have hyZ := d4Z
  rw [hy] at hyZ
  clear hy hck
  obtain ⟨W5, hW5, b5, hb5⟩ := newRow W4 (bvs y4).toArray (bvs F).toArray 41
  go_upto_region 6 with (first
    | (refine wpList_new rfl hyZ rfl ?_)
    | (refine wpList_store_row rfl 41 (.tmp 8) (.tmp 32) rfl _ (bvs F).toArray rfl rfl _ (bvs y4).toArray (heap_alloc_new _ _) (d4_info hF4) (by rw [List.size_toArray, List.size_toArray, bvs_len, bvs_len, hyl, hF4]) (all_oneCell_toArray (oneCell_bvs _)) ?_; (try rw [hW5]))
    | fail)
  have hz4 := hb4.size
  have hz5 := (Array.getElem?_eq_some_iff.1 b5).1
  replace hown := own_below (own_below hown hb4) hb5
  have hB5 := hBX.trans ((hb4.mono hBX.size).trans (hb5.mono (by have := hBX.size; omega)))
  have hx4 : Sl W5 W5.heap.size 1 (some ⟨W4.heap.size, 0, none⟩) 4 (bvs F) := by
    have := Sl.new (sz := 1) (n := 4) b5 (by simp [bvs_len, hF4])
    exact this
  have hwz := hB5.size
  clear hb4 hb5 hW5 hyZ hBX
  go_wp2_with (first
    | (at_builtin; go_loud (refine wpList_app _ rfl (.tmp 33) (.tmp 34) 22 rfl (base := w.heap.size) Try.underlying22 elemC rfl hown rfl hx4 (oneCell_bvs _) (by simp only [maxLen]; omega) (by omega) hwz ?_; intro A35 c35 w35 hown5 hg hb hat))
    | fail)
  rw [← bvs_append, HF.out.1] at hown5
  have hB35 := hB5.trans hb
  clear hown hx4 hg hat hb hB5 b5
  obtain ⟨q, hq⟩ : ∃ q, m + 4 = q := ⟨_, rfl⟩
  have hq7 : q = n + 7 := by omega
  rw [hq] at hown5
  rw [hq]
  have hc5 := own_form hown5
  obtain ⟨A', c', e, hqc, hcm⟩ := hc5
  simp only [Value.slice.injEq] at e
  obtain ⟨rfl, -, rfl⟩ := e
  obtain ⟨pb, ob, rfl, hpb, hpr⟩ := (Sl.of_own hown5).at_ (by omega)
  have halq : al.length = q := by rw [HF.out.2, hq7]
  refine Calls.mono (cut_any _ _ _ _) ?_
  rintro e W6 ⟨rfl, h6⟩
  have b6 : W6.heap[w35.heap.size]? = some (.cells #[.slice (some ⟨pb, ob, none⟩) q c35] 22) := by rw [← h6]; exact heap_alloc_new _ _
  have hb6 : Below w35.heap.size w35 W6 := by rw [← h6]; exact (Below.refl _ _).alloc (Nat.le_refl _) _
  have hz6 := (Array.getElem?_eq_some_iff.1 b6).1
  have hco := collect_any (l := al) (n := q) (cap := c35) (w := W6) (BX := w35.heap.size) (b := pb) (o := ob) halq (by omega) hqc hcm hz6 (by omega) (blk_cell b6 rfl) (bRange hb6 hpb hpr)
  have hB6 := hB35.trans (hb6.mono hB35.size)
  clear h6 hown5 hpr hb6 b6 HF
  go_wp2_with fail
  refine Calls.mono hco ?_
  rintro e W7 ⟨A7, c7, rfl, hown7, hb7⟩
  have hlen : cutN q = (cutB al).length := by rw [cutB_len, halq]
  have hof := own_form hown7
  have hB7 := hB6.trans (hb7.mono hB6.size)
  have H7 := Lib.hid (And.intro hown7 (And.intro hB7 (And.intro hlen hof)))
  clear hown7 hB7 hof hB6 hb7 hco hlen
  go_wp2_with fail
  go_ret2
  obtain ⟨hown7, hB7, hlen, A8, c8, e, h7, h8⟩ := H7.out
  simp only [Value.slice.injEq] at e
  obtain ⟨rfl, -, rfl⟩ := e
  subst hq7
  exact ⟨_, _, _, rfl, hlen, h7, h8, Sl.of_own hown7, hB7⟩
theorem frame_any {kind : Int} {A : Option Addr} {n c B : Nat} {body : List UInt8} (hl : body.length = n) (w : World) (hs : Sl w B 1 A n (bvs body)) (hB : B ≤ w.heap.size) :
    Calls Try.prog 14 #[.int .i64 kind, .slice A n c] w (FrmP w (frameB kind body) (frameE kind n)) := by
  by_cases h : 1 ≤ kind ∧ kind ≤ 6 ∧ n ≤ 1000
  · have ho : obOk kind n = true := obOk_iff.2 h
    have e1 : frameB kind body = cutB (obAll kind body) := by unfold frameB; rw [hl, ho, if_pos rfl]
    have e2 : frameE kind n = 0 := by unfold frameE; rw [ho]; rfl
    rw [e1, e2]
    exact frame_yes h.1 h.2.1 h.2.2 hl w hs hB
  · have ho : obOk kind n = false := by unfold obOk; exact decide_eq_false h
    have e1 : frameB kind body = [] := by unfold frameB; rw [hl, ho]; rfl
    have e2 : frameE kind n = 1 := by unfold frameE; rw [ho]; rfl
    rw [e1, e2]
    exact frame_no (by omega) w
end Go.Proofs.Ythmjkgpfnpdddaa
