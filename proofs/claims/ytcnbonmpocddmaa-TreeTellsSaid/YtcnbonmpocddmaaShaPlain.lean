/- SHA-256 in plain Lean: words of 32 bits, the schedule, a round, a chunk, the padded text, the digest; no program in sight. -/
import Derived.Test.YtcnbonmpocddmaaBase
namespace Go.Proofs.Ytcnbonmpocddmaa
set_option linter.unusedSimpArgs false
set_option linter.unusedVariables false

abbrev W32 := BitVec 32
def wv (x : W32) : Value := .int .u32 ((x.toNat : Nat) : Int)
def wvs (l : List W32) : List Value := l.map wv
theorem wvs_len (l : List W32) : (wvs l).length = l.length := List.length_map ..

/-! ### what the machine does with words -/
theorem w_add (x y : W32) : IntKind.u32.wrap ((x.toNat : Int) + (y.toNat : Int)) = ((x + y).toNat : Int) := by
  rw [IntKind.wrap_u32, BitVec.toNat_add]; omega
theorem w_and (x y : W32) : bits .and .u32 (x.toNat : Int) (y.toNat : Int) = ((x &&& y).toNat : Int) := by
  rw [u32_and_nat _ _ x.isLt y.isLt, BitVec.toNat_and]
theorem w_or (x y : W32) : bits .or .u32 (x.toNat : Int) (y.toNat : Int) = ((x ||| y).toNat : Int) := by
  rw [u32_or_nat _ _ x.isLt y.isLt, BitVec.toNat_or]
theorem w_xor (x y : W32) : bits .xor .u32 (x.toNat : Int) (y.toNat : Int) = ((x ^^^ y).toNat : Int) := by
  rw [u32_xor_nat _ _ x.isLt y.isLt, BitVec.toNat_xor]
theorem w_not (x : W32) : bits .xor .u32 4294967295 (x.toNat : Int) = ((~~~x).toNat : Int) := by
  have h : (4294967295 : Int) = (((4294967295 : W32).toNat : Nat) : Int) := rfl
  rw [h, w_xor]
  have : (4294967295 : W32) ^^^ x = ~~~x := by
    rw [show (4294967295 : W32) = BitVec.allOnes 32 from rfl, BitVec.allOnes_xor]
  rw [this]
theorem w_shr (x : W32) (n : Nat) : (x.toNat : Int) / 2 ^ n = ((x >>> n).toNat : Int) := by
  rw [BitVec.toNat_ushiftRight, Nat.shiftRight_eq_div_pow, Int.natCast_ediv, Int.natCast_pow]; rfl
theorem w_shl (x : W32) (n : Nat) : IntKind.u32.wrap ((x.toNat : Int) * 2 ^ n) = ((x <<< n).toNat : Int) := by
  rw [IntKind.wrap_u32, BitVec.toNat_shiftLeft, Nat.shiftLeft_eq, Int.natCast_emod, Int.natCast_mul, Int.natCast_pow]
  have : ((2 ^ 32 : Nat) : Int) = 4294967296 := by decide
  rw [← this]
  norm_cast
theorem w_byte (x : W32) : IntKind.u8.wrap (x.toNat : Int) = ((u8 (x.toNat : Int)).toNat : Int) := by
  rw [u8_toNat]; rfl
theorem w_of8 (b : UInt8) : (b.toNat : Int) = (((BitVec.ofNat 32 b.toNat : W32).toNat : Nat) : Int) := by
  have := b.toNat_lt
  rw [BitVec.toNat_ofNat, Nat.mod_eq_of_lt (by omega)]

/-! ### the words of a chunk -/
def ror (x : W32) (n : Nat) : W32 := x >>> n ||| x <<< (32 - n)
def kTab : List W32 := [1116352408#32, 1899447441#32, 3049323471#32, 3921009573#32, 961987163#32, 1508970993#32, 2453635748#32, 2870763221#32, 3624381080#32, 310598401#32, 607225278#32, 1426881987#32, 1925078388#32, 2162078206#32, 2614888103#32, 3248222580#32, 3835390401#32, 4022224774#32, 264347078#32, 604807628#32, 770255983#32, 1249150122#32, 1555081692#32, 1996064986#32, 2554220882#32, 2821834349#32, 2952996808#32, 3210313671#32, 3336571891#32, 3584528711#32, 113926993#32, 338241895#32, 666307205#32, 773529912#32, 1294757372#32, 1396182291#32, 1695183700#32, 1986661051#32, 2177026350#32, 2456956037#32, 2730485921#32, 2820302411#32, 3259730800#32, 3345764771#32, 3516065817#32, 3600352804#32, 4094571909#32, 275423344#32, 430227734#32, 506948616#32, 659060556#32, 883997877#32, 958139571#32, 1322822218#32, 1537002063#32, 1747873779#32, 1955562222#32, 2024104815#32, 2227730452#32, 2361852424#32, 2428436474#32, 2756734187#32, 3204031479#32, 3329325298#32]
def byteOf (p : List UInt8) (i : Nat) : W32 := BitVec.ofNat 32 (p[i]?.getD 0).toNat
def word (p : List UInt8) (t : Nat) : Nat → W32
  | 0 => 0
  | k + 1 => word p t k <<< 8 ||| byteOf p (4 * t + k)
theorem word_add (x : W32) (b : UInt8) : x <<< 8 + BitVec.ofNat 32 b.toNat = x <<< 8 ||| BitVec.ofNat 32 b.toNat := by
  apply BitVec.add_eq_or_of_and_eq_zero
  apply BitVec.eq_of_getLsbD_eq
  intro i hi
  have hb := b.toNat_lt
  simp only [BitVec.getLsbD_and, BitVec.getLsbD_shiftLeft, BitVec.getLsbD_ofNat, BitVec.getLsbD_zero]
  rcases Nat.lt_or_ge i 8 with h | h
  · simp [h]
  · rw [Nat.testBit_lt_two_pow (Nat.lt_of_lt_of_le (by omega : b.toNat < 2 ^ 8) (Nat.pow_le_pow_right (by decide) h))]
    simp
def sig0 (x : W32) : W32 := ror x 7 ^^^ ror x 18 ^^^ x >>> 3
def sig1 (x : W32) : W32 := ror x 17 ^^^ ror x 19 ^^^ x >>> 10
def wAt (l : List W32) (i : Nat) : W32 := l[i]?.getD 0
def schNext (p : List UInt8) (t : Nat) (l : List W32) : W32 :=
  if t < 16 then word p t 4 else sig1 (wAt l (t - 2)) + wAt l (t - 7) + sig0 (wAt l (t - 15)) + wAt l (t - 16)
def sch (p : List UInt8) : Nat → List W32
  | 0 => []
  | t + 1 => sch p t ++ [schNext p t (sch p t)]
theorem sch_len (p : List UInt8) (t : Nat) : (sch p t).length = t := by
  induction t with
  | zero => rfl
  | succ t ih => rw [sch, List.length_append, ih]; rfl
theorem sch_at (p : List UInt8) {i t : Nat} (h : i < t) : (sch p t)[i]? = some (schNext p i (sch p i)) := by
  induction t with
  | zero => omega
  | succ t ih =>
    rw [sch]
    rcases Nat.lt_or_ge i t with h1 | h1
    · rw [List.getElem?_append_left (by rw [sch_len]; exact h1)]; exact ih h1
    · obtain rfl : i = t := by omega
      rw [List.getElem?_append_right (by rw [sch_len]; omega), sch_len, Nat.sub_self]; rfl

/-! ### rounds -/
structure St where
  (a b c d e f g h : W32)
def St.list (s : St) : List W32 := [s.a, s.b, s.c, s.d, s.e, s.f, s.g, s.h]
def big0 (x : W32) : W32 := ror x 2 ^^^ ror x 13 ^^^ ror x 22
def big1 (x : W32) : W32 := ror x 6 ^^^ ror x 11 ^^^ ror x 25
def cho (e f g : W32) : W32 := (e &&& f) ^^^ (~~~e &&& g)
def most (a b c : W32) : W32 := (a &&& b) ^^^ (a &&& c) ^^^ (b &&& c)
theorem cho_or (e f g : W32) : (e &&& f) ||| (~~~e &&& g) = cho e f g := by
  unfold cho
  apply BitVec.eq_of_getLsbD_eq
  intro i hi
  simp only [BitVec.getLsbD_or, BitVec.getLsbD_and, BitVec.getLsbD_not, BitVec.getLsbD_xor, hi, decide_true, Bool.true_and]
  cases e.getLsbD i <;> cases f.getLsbD i <;> cases g.getLsbD i <;> rfl
theorem most_or (a b c : W32) : (a &&& b) ||| (a &&& c) ||| (b &&& c) = most a b c := by
  unfold most
  apply BitVec.eq_of_getLsbD_eq
  intro i hi
  simp only [BitVec.getLsbD_or, BitVec.getLsbD_and, BitVec.getLsbD_xor]
  cases a.getLsbD i <;> cases b.getLsbD i <;> cases c.getLsbD i <;> rfl
def rx (s : St) (k w : W32) : W32 := s.h + big1 s.e + cho s.e s.f s.g + k + w
def ry (s : St) : W32 := big0 s.a + most s.a s.b s.c
def rnd (s : St) (k w : W32) : St := ⟨rx s k w + ry s, s.a, s.b, s.c, s.d + rx s k w, s.e, s.f, s.g⟩
def rnds (s : St) (ws : List W32) : Nat → St
  | 0 => s
  | t + 1 => rnd (rnds s ws t) (wAt kTab t) (wAt ws t)
def plus (s v : St) : St := ⟨v.a + s.a, v.b + s.b, v.c + s.c, v.d + s.d, v.e + s.e, v.f + s.f, v.g + s.g, v.h + s.h⟩
def comp (s : St) (p : List UInt8) : St := plus s (rnds s (sch p 64) 64)
def s00 : St := ⟨1779033703#32, 3144134277#32, 1013904242#32, 2773480762#32, 1359893119#32, 2600822924#32, 528734635#32, 1541459225#32⟩

/-! ### the whole text -/
def zs (n : Nat) : List UInt8 := List.replicate n 0
def lenB (n : Nat) : List UInt8 := (List.range 8).map fun i => u8 ((8 * n / 2 ^ (56 - 8 * i) : Nat) : Int)
def lenTo (n i : Nat) : List UInt8 := (List.range i).map fun i => u8 ((8 * n / 2 ^ (56 - 8 * i) : Nat) : Int)
def padded (b : List UInt8) : List UInt8 := b ++ [128] ++ zs ((119 - b.length % 64) % 64) ++ lenTo b.length 8
theorem lenTo_len (n i : Nat) : (lenTo n i).length = i := by simp [lenTo]
theorem lenTo_succ (n i : Nat) : lenTo n (i + 1) = lenTo n i ++ [u8 ((8 * n / 2 ^ (56 - 8 * i) : Nat) : Int)] := by
  unfold lenTo
  rw [List.range_succ, List.map_append]; rfl
theorem padded_len (b : List UInt8) : (padded b).length % 64 = 0 ∧ b.length < (padded b).length ∧ (padded b).length ≤ b.length + 72 := by
  simp only [padded, List.length_append, zs, List.length_replicate, lenTo_len, List.length_singleton]
  omega
def chunkOf (p : List UInt8) (i : Nat) : List UInt8 := (p.drop (64 * i)).take 64
theorem chunkOf_len {p : List UInt8} {i : Nat} (h : 64 * i + 64 ≤ p.length) : (chunkOf p i).length = 64 := by
  unfold chunkOf
  rw [List.length_take, List.length_drop]; omega
def shaTo (p : List UInt8) : Nat → St
  | 0 => s00
  | i + 1 => comp (shaTo p i) (chunkOf p i)
def dByte (l : List W32) (j : Nat) : UInt8 := u8 (((wAt l (j / 4) >>> (24 - 8 * (j % 4))).toNat : Nat) : Int)
def digTo (l : List W32) (j : Nat) : List UInt8 := (List.range j).map (dByte l)
theorem digTo_len (l : List W32) (j : Nat) : (digTo l j).length = j := by simp [digTo]
theorem digTo_succ (l : List W32) (j : Nat) : digTo l (j + 1) = digTo l j ++ [dByte l j] := by
  unfold digTo
  rw [List.range_succ, List.map_append]; rfl
/-- the first j bytes of a digest, zeros behind -/
def digZ (l : List W32) (j : Nat) : List UInt8 := digTo l j ++ zs (32 - j)
theorem digZ_len (l : List W32) {j : Nat} (h : j ≤ 32) : (digZ l j).length = 32 := by
  simp only [digZ, List.length_append, digTo_len, zs, List.length_replicate]; omega
theorem digZ_set (l : List W32) {j : Nat} (h : j < 32) : (digZ l j).set j (dByte l j) = digZ l (j + 1) := by
  unfold digZ zs
  rw [show 32 - j = (32 - (j + 1)) + 1 from by omega, List.replicate_succ, List.set_append, if_neg (by rw [digTo_len]; omega), digTo_len, Nat.sub_self, List.set_cons_zero, digTo_succ, List.append_assoc]
  rfl
def shaF (b : List UInt8) : St := shaTo (padded b) ((padded b).length / 64)
def sha (b : List UInt8) : List UInt8 := digTo (shaF b).list 32
theorem sha_len (b : List UInt8) : (sha b).length = 32 := digTo_len _ _
theorem digZ_all (b : List UInt8) : digZ (shaF b).list 32 = sha b := by
  unfold digZ sha zs
  rw [Nat.sub_self, List.replicate_zero, List.append_nil]

/-! ### closed texts -/
theorem sha_abc : sha [97, 98, 99] = [186, 120, 22, 191, 143, 1, 207, 234, 65, 65, 64, 222, 93, 174, 34, 35, 176, 3, 97, 163, 150, 23, 122, 156, 180, 16, 255, 97, 242, 0, 21, 173] := by decide +kernel
theorem sha_none : sha [] = [227, 176, 196, 66, 152, 252, 28, 20, 154, 251, 244, 200, 153, 111, 185, 36, 39, 174, 65, 228, 100, 155, 147, 76, 164, 149, 153, 27, 120, 82, 184, 85] := by decide +kernel
end Go.Proofs.Ytcnbonmpocddmaa
