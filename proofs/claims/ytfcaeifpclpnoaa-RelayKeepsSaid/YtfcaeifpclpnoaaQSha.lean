/-
  SHA-256 and numbers as octets, plainly. No conditions.
-/
import Derived.Test.YtfcaeifpclpnoaaQRd
namespace Go.Proofs.Ytfcaeifpclpnoaa.Sha
open Go Eng
set_option linter.unusedVariables false

/-! Octets of numbers -/
/-- The lowest octets of a number, the highest first. -/
def num (n : Nat) : Nat → List UInt8
  | 0 => []
  | k + 1 => num (n / 256) k ++ [UInt8.ofNat n]
theorem num_length : ∀ (k n : Nat), (num n k).length = k
  | 0, _ => rfl
  | k + 1, n => by simp [num, num_length k]
theorem num_get : ∀ {k n j : Nat}, j < k → (num n k)[j]? = some (UInt8.ofNat (n / 256 ^ (k - 1 - j)))
  | 0, _, j, h => by omega
  | k + 1, n, j, h => by
    rw [num]
    rcases Nat.lt_or_ge j k with h1 | h1
    · rw [List.getElem?_append_left (by rw [num_length]; exact h1), num_get h1, Nat.div_div_eq_div_mul]
      congr 3
      rw [show k + 1 - 1 - j = (k - 1 - j) + 1 by omega, Nat.pow_succ, Nat.mul_comm]
    · have e : j = k := by omega
      subst e
      rw [List.getElem?_append_right (by rw [num_length]; omega), num_length]
      simp
theorem u8_cell (n : Nat) : bcell (UInt8.ofNat n) = .int .u8 ((n % 256 : Nat) : Int) := by
  simp [bcell]
theorem num_tab (n k : Nat) : bcs (num n k) = tab (fun j => .int .u8 ((n / 256 ^ (k - 1 - j) % 256 : Nat) : Int)) k := by
  refine tab_eq (by rw [bcs_length, num_length]) fun j hj => ?_
  rw [bcs_get (num_get hj), u8_cell]
/-- The number of octets. -/
def be (l : List UInt8) : Nat := l.foldl (fun n b => n * 256 + b.toNat) 0
theorem be_snoc (l : List UInt8) (b : UInt8) : be (l ++ [b]) = be l * 256 + b.toNat := by simp [be]
theorem be_lt (l : List UInt8) : be l < 256 ^ l.length := by
  suffices h : ∀ (l : List UInt8) (n : Nat), l.foldl (fun n b => n * 256 + b.toNat) n < (n + 1) * 256 ^ l.length by
    have := h l 0
    simpa [be] using this
  intro l
  induction l with
  | nil => intro n; simp
  | cons b l ih =>
    intro n
    simp only [List.foldl_cons, List.length_cons]
    refine Nat.lt_of_lt_of_le (ih _) ?_
    rw [Nat.pow_succ, Nat.mul_comm (256 ^ l.length), ← Nat.mul_assoc]
    refine Nat.mul_le_mul_right _ ?_
    have := b.toNat_lt
    omega
theorem be_num : ∀ (k n : Nat), be (num n k) = n % 256 ^ k
  | 0, n => by simp [num, be, Nat.mod_one]
  | k + 1, n => by
    have e : 256 ^ (k + 1) = 256 * 256 ^ k := by rw [Nat.pow_succ, Nat.mul_comm]
    rw [num, be_snoc, be_num k, UInt8.toNat_ofNat', e, Nat.mod_mul]
    omega

/-- The octet at a place. -/
def oc (l : List UInt8) (i : Nat) : UInt8 := (l[i]?).getD 0
theorem oc_get {l : List UInt8} {i : Nat} (h : i < l.length) : l[i]? = some (oc l i) := by
  unfold oc
  rw [List.getElem?_eq_getElem h]; rfl
theorem be_take {l : List UInt8} {i : Nat} (h : i < l.length) : be (l.take (i + 1)) = be (l.take i) * 2 ^ 8 + (oc l i).toNat := by
  rw [List.take_add_one, oc_get h]
  exact be_snoc _ _
theorem be_48 {l : List UInt8} {i : Nat} (h : i ≤ 6) : be (l.take i) < 281474976710656 := by
  refine Nat.lt_of_lt_of_le (be_lt _) ?_
  refine Nat.le_trans (Nat.pow_le_pow_right (by decide) (Nat.le_trans (List.length_take_le _ _) h)) (by decide)
/-! The rounds -/
abbrev W32 := BitVec 32
def ror (x : W32) (n : Nat) : W32 := (x <<< (32 - n)) ||| (x >>> n)
def lo0 (x : W32) : W32 := ror x 7 ^^^ ror x 18 ^^^ (x >>> 3)
def lo1 (x : W32) : W32 := ror x 17 ^^^ ror x 19 ^^^ (x >>> 10)
def hi0 (x : W32) : W32 := ror x 2 ^^^ ror x 13 ^^^ ror x 22
def hi1 (x : W32) : W32 := ror x 6 ^^^ ror x 11 ^^^ ror x 25
def KL : List Nat := [
  0x428a2f98, 0x71374491, 0xb5c0fbcf, 0xe9b5dba5, 0x3956c25b, 0x59f111f1, 0x923f82a4, 0xab1c5ed5, 0xd807aa98, 0x12835b01, 0x243185be, 0x550c7dc3,
  0x72be5d74, 0x80deb1fe, 0x9bdc06a7, 0xc19bf174, 0xe49b69c1, 0xefbe4786, 0x0fc19dc6, 0x240ca1cc, 0x2de92c6f, 0x4a7484aa, 0x5cb0a9dc, 0x76f988da,
  0x983e5152, 0xa831c66d, 0xb00327c8, 0xbf597fc7, 0xc6e00bf3, 0xd5a79147, 0x06ca6351, 0x14292967, 0x27b70a85, 0x2e1b2138, 0x4d2c6dfc, 0x53380d13,
  0x650a7354, 0x766a0abb, 0x81c2c92e, 0x92722c85, 0xa2bfe8a1, 0xa81a664b, 0xc24b8b70, 0xc76c51a3, 0xd192e819, 0xd6990624, 0xf40e3585, 0x106aa070,
  0x19a4c116, 0x1e376c08, 0x2748774c, 0x34b0bcb5, 0x391c0cb3, 0x4ed8aa4a, 0x5b9cca4f, 0x682e6ff3, 0x748f82ee, 0x78a5636f, 0x84c87814, 0x8cc70208,
  0x90befffa, 0xa4506ceb, 0xbef9a3f7, 0xc67178f2]
def kw (i : Nat) : W32 := BitVec.ofNat 32 (KL.getD i 0)
def st0 : Nat → W32
  | 0 => 0x6a09e667#32 | 1 => 0xbb67ae85#32 | 2 => 0x3c6ef372#32 | 3 => 0xa54ff53a#32 | 4 => 0x510e527f#32 | 5 => 0x9b05688c#32 | 6 => 0x1f83d9ab#32 | _ => 0x5be0cd19#32
/-- A state's cells. -/
abbrev st8 (s : Nat → W32) : List Value := [u32 (s 0), u32 (s 1), u32 (s 2), u32 (s 3), u32 (s 4), u32 (s 5), u32 (s 6), u32 (s 7)]
theorem st8_tab (s : Nat → W32) : st8 s = tab (fun j => u32 (s j)) 8 := rfl
/-- A block's words. -/
def word (b : List UInt8) (i : Nat) : W32 := BitVec.ofNat 32 (be ((b.drop (4 * i)).take 4))
def sch (b : List UInt8) : Nat → Nat → W32
  | 0, i => if i < 16 then word b i else 0
  | n + 1, i => if i = n + 16 then lo1 (sch b n (n + 14)) + sch b n (n + 9) + lo0 (sch b n (n + 1)) + sch b n n else sch b n i
def rnd1 (s : Nat → W32) (k : W32) : Nat → W32
  | 0 => s 7 + hi1 (s 4) + ((s 4 &&& s 5) ^^^ (~~~(s 4) &&& s 6)) + k + (hi0 (s 0) + ((s 0 &&& s 1) ^^^ (s 0 &&& s 2) ^^^ (s 1 &&& s 2)))
  | 1 => s 0 | 2 => s 1 | 3 => s 2
  | 4 => s 3 + (s 7 + hi1 (s 4) + ((s 4 &&& s 5) ^^^ (~~~(s 4) &&& s 6)) + k)
  | 5 => s 4 | 6 => s 5 | _ => s 6
def rnds (w : Nat → W32) (s : Nat → W32) : Nat → Nat → W32
  | 0 => s
  | n + 1 => rnd1 (rnds w s n) (kw n + w n)
def blockS (s : Nat → W32) (b : List UInt8) (j : Nat) : W32 := s j + rnds (sch b 48) s 64 j
/-- What stands behind a text of n octets. -/
def padz (n : Nat) : Nat := (119 - n % 64) % 64
def pad (l : List UInt8) : List UInt8 := l ++ [128] ++ List.replicate (padz l.length) 0 ++ num (8 * l.length) 8
theorem pad_length (l : List UInt8) : (pad l).length = 64 * ((l.length + 72) / 64) := by
  simp only [pad, List.length_append, List.length_cons, List.length_nil, List.length_replicate, num_length, padz]
  omega
theorem pad_mod (l : List UInt8) : (pad l).length % 64 = 0 := by rw [pad_length]; omega
def chunk (p : List UInt8) (i : Nat) : List UInt8 := (p.drop (i * 64)).take 64
theorem chunk_length {p : List UInt8} {i : Nat} (h : (i + 1) * 64 ≤ p.length) : (chunk p i).length = 64 := by
  simp only [chunk, List.length_take, List.length_drop]
  omega
def sums (p : List UInt8) : Nat → Nat → W32
  | 0 => st0
  | n + 1 => blockS (sums p n) (chunk p n)
def outS (s : Nat → W32) : Nat → List UInt8
  | 0 => []
  | n + 1 => outS s n ++ num (s n).toNat 4
theorem outS_length (s : Nat → W32) : ∀ n, (outS s n).length = 4 * n
  | 0 => rfl
  | n + 1 => by simp [outS, outS_length s n, num_length]; omega
/-- SHA-256. -/
def sha (l : List UInt8) : List UInt8 := outS (sums (pad l) ((pad l).length / 64)) 8
theorem sha_length (l : List UInt8) : (sha l).length = 32 := outS_length _ 8
def short (l : List UInt8) : List UInt8 := (sha l).take 8
theorem short_length (l : List UInt8) : (short l).length = 8 := by simp [short, sha_length]
end Go.Proofs.Ytfcaeifpclpnoaa.Sha
