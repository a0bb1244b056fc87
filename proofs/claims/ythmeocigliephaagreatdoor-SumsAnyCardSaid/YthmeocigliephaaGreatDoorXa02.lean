/- Parts of the proof, behind one another; unused words are left out. -/
import Derived.Test.YthmeocigliephaaGreatDoorXa01
import Derived.Deep.DeepCutAuto
set_option linter.unusedVariables false
set_option linter.unusedSimpArgs false
set_option linter.unusedSectionVars false
set_option exponentiation.threshold 100000
set_option maxRecDepth 100000
set_option maxHeartbeats 8000000
open Go.RowKit Go.Proofs.YthmeocigliephaaGreatDoorW.PrintWords Go.Proofs.YthmeocigliephaaGreatDoorW.PrintLast Go.Proofs.YthmeocigliephaaGreatDoorW.PrintMore
section
namespace Go.Proofs.YthmeocigliephaaGreatDoor.Plain
open Go.RowKit Go.Proofs.YthmeocigliephaaGreatDoorW.PrintWords
open Ieee
theorem infle (A M : Nat) (h : A ≤ 2045) (hM : M < 9007199254740992) : A * 4503599627370496 + M ≤ 9218868437227405312 := by omega
theorem cut_zero (n : Nat) : Toward.even.cut false n 0 = n := by
  unfold Toward.cut
  simp [Nat.mod_one]
theorem cut_exact (m j : Nat) (hj : j ≤ (m * 2 ^ j).log2 + 2) : Toward.even.cut false (m * 2 ^ j) j = m := by
  unfold Toward.cut
  simp only
  rw [Nat.min_eq_left hj, Nat.one_shiftLeft, Nat.mul_div_cancel _ (Nat.pow_pos (by omega)), Nat.mul_mod_left]
  have : 0 < 2 ^ j := Nat.pow_pos (by omega)
  have h1 : decide (2 ^ j < 2 * 0) = false := by simp
  have h2 : (2 ^ j == 2 * 0) = false := by simp
  rw [h1, h2]; rfl
theorem log2_eq {n k : Nat} (h1 : 2 ^ k ≤ n) (h2 : n < 2 ^ (k + 1)) : n.log2 = k := by
  have h := bl_unique h1 h2
  have : n ≠ 0 := by have := Nat.pow_pos (n := k) (show 0 < 2 by omega); omega
  rw [bl_pos this] at h; omega
theorem nearest_norm (M : Nat) (p : Int) (k : Nat) (hM : 2 ^ 52 ≤ M) (hM2 : M < 2 ^ 53) (hp : -1074 ≤ p) (hp2 : p ≤ 971) : double.nearest false (M * 2 ^ k) (p - k) = (p + 1074).toNat * 4503599627370496 + M := by
  unfold Format.nearest
  have hk : 0 < 2 ^ k := Nat.pow_pos (by omega)
  have hne : M * 2 ^ k ≠ 0 := by have := Nat.mul_pos (show 0 < M by omega) hk; omega
  have hl : (M * 2 ^ k).log2 = 52 + k := log2_eq (by rw [Nat.pow_add]; exact Nat.mul_le_mul_right _ hM) (by rw [show 52 + k + 1 = 53 + k by omega, Nat.pow_add]; exact Nat.mul_lt_mul_of_pos_right hM2 hk)
  rw [if_neg hne]
  simp only [hl, lp, bn]
  have e1 : max (p - (k : Int) + ((52 + k : Nat) : Int) - (double.fractionBits : Int)) (-1074) = p := by
    have : (double.fractionBits : Int) = 52 := rfl
    rw [this]; omega
  rw [e1, show (p - (k : Int) - p).toNat = 0 by omega, show (p - (p - (k : Int))).toNat = k by omega, Nat.shiftLeft_zero, cut_exact M k (by rw [hl]; omega)]
  unfold Format.word
  simp only [Bool.false_eq_true, if_false]
  rw [show (p - -1074).toNat = (p + 1074).toNat by congr 1]
  exact Nat.min_eq_left (by rw [ir]; exact infle _ _ (by omega) hM2)
theorem floatOf_pos {m : Nat} (h0 : m ≠ 0) (h1 : m < 2 ^ 53) : floatOfInt .f64 (m : Int) = (m.log2 + 1022) * 4503599627370496 + m * 2 ^ (52 - m.log2) := by
  have hL : m.log2 ≤ 52 := by have := (Nat.log2_lt h0).2 h1; omega
  have hl1 := Nat.log2_self_le h0
  have hl2 := Nat.lt_log2_self (n := m)
  show double.nearest (decide ((m : Int) < 0)) (m : Int).natAbs 0 = _
  rw [decide_eq_false (by omega), Int.natAbs_natCast]
  unfold Format.nearest
  rw [if_neg h0]
  simp only [lp, bn]
  have e1 : max (0 + (m.log2 : Int) - (double.fractionBits : Int)) (-1074) = (m.log2 : Int) - 52 := by
    have : (double.fractionBits : Int) = 52 := rfl
    rw [this]; omega
  rw [e1, show (0 - ((m.log2 : Int) - 52)).toNat = 52 - m.log2 by omega, show (((m.log2 : Int) - 52) - 0).toNat = 0 by omega, cut_zero, Nat.shiftLeft_eq]
  unfold Format.word
  simp only [Bool.false_eq_true, if_false]
  rw [show ((m.log2 : Int) - 52 - -1074).toNat = m.log2 + 1022 by omega]
  have h3 : m * 2 ^ (52 - m.log2) < 2 ^ (m.log2 + 1) * 2 ^ (52 - m.log2) := Nat.mul_lt_mul_of_pos_right hl2 (Nat.pow_pos (by omega))
  rw [← Nat.pow_add, show m.log2 + 1 + (52 - m.log2) = 53 by omega] at h3
  exact Nat.min_eq_left (by rw [ir]; exact infle _ _ (by omega) h3)
theorem norm_range {m : Nat} (h0 : m ≠ 0) (h1 : m < 2 ^ 53) : 2 ^ 52 ≤ m * 2 ^ (52 - m.log2) ∧ m * 2 ^ (52 - m.log2) < 2 ^ 53 := by
  have hL : m.log2 ≤ 52 := by have := (Nat.log2_lt h0).2 h1; omega
  have hl1 := Nat.log2_self_le h0
  have hl2 := Nat.lt_log2_self (n := m)
  constructor
  · have := Nat.mul_le_mul_right (2 ^ (52 - m.log2)) hl1
    rwa [← Nat.pow_add, show m.log2 + (52 - m.log2) = 52 by omega] at this
  · have h3 : m * 2 ^ (52 - m.log2) < 2 ^ (m.log2 + 1) * 2 ^ (52 - m.log2) := Nat.mul_lt_mul_of_pos_right hl2 (Nat.pow_pos (by omega))
    rwa [← Nat.pow_add, show m.log2 + 1 + (52 - m.log2) = 53 by omega] at h3
theorem word_facts (E M : Nat) (hE : 1 ≤ E) (hE2 : E ≤ 2046) (hM : 2 ^ 52 ≤ M) (hM2 : M < 2 ^ 53) :
    Fin64 ((E - 1) * 4503599627370496 + M) ∧ expo ((E - 1) * 4503599627370496 + M) = E ∧ manti ((E - 1) * 4503599627370496 + M) = M ∧ sgn ((E - 1) * 4503599627370496 + M) = false ∧ expoV ((E - 1) * 4503599627370496 + M) = E - 1075 := by
  have hb : (E - 1) * 4503599627370496 ≤ 2045 * 4503599627370496 := Nat.mul_le_mul_right _ (by omega)
  have he : expo ((E - 1) * 4503599627370496 + M) = E := by unfold expo; omega
  refine ⟨⟨by omega, by omega⟩, he, ?_, ?_, ?_⟩
  · unfold manti frac; rw [he, if_neg (by omega)]; omega
  · unfold sgn; exact decide_eq_false (by omega)
  · unfold expoV; rw [he, if_neg (by omega)]
theorem mul_words (a b : Nat) (ha : Fin64 a) (hb : Fin64 b) (hsa : sgn a = false) (hsb : sgn b = false) : floatBits .mul .f64 a b = some (double.nearest false (manti a * manti b) (expoV a + expoV b)) := by
  show double.mul a b = _
  unfold Format.mul
  rw [read_fin ha, read_fin hb, hsa, hsb]
  rfl
theorem order_pos (a b : Nat) (ha : Fin64 a) (hb : Fin64 b) (hsa : sgn a = false) (hsb : sgn b = false) :
    FloatKind.f64.format.order a b = some (compare ((manti a * 2 ^ (expoV a - min (expoV a) (expoV b)).toNat : Nat) : Int) ((manti b * 2 ^ (expoV b - min (expoV a) (expoV b)).toNat : Nat) : Int)) := by
  show double.order a b = _
  unfold Format.order
  rw [read_fin ha, read_fin hb, hsa, hsb]
  unfold Datum.order
  simp only
  unfold signed
  simp only [Bool.false_eq_true, if_false, Nat.shiftLeft_eq]
theorem bits_and_i64_2047 (e : Nat) (h : e < 2048) : bits .and .i64 (e : Int) 2047 = (e : Int) := by
  have h1 : (BitVec.ofInt 64 (e : Int)).toNat = e := by
    rw [BitVec.ofInt_natCast, BitVec.toNat_ofNat]; exact Nat.mod_eq_of_lt (by omega)
  have h2 : (BitVec.ofInt 64 (2047 : Int)).toNat = 2047 := by decide
  show IntKind.i64.wrap ((BitVec.ofInt 64 (e : Int) &&& BitVec.ofInt 64 (2047 : Int)).toNat : Int) = _
  rw [BitVec.toNat_and, h1, h2, show (2047 : Nat) = 2 ^ 11 - 1 by decide, Nat.and_two_pow_sub_one_eq_mod, IntKind.wrap_i64]
  omega
theorem bits_mask (E M : Nat) (hE : E ≤ 2047) (hM : 2 ^ 52 ≤ M) (hM2 : M < 2 ^ 53) (hE1 : 1 ≤ E) : bits .andNot .u64 ((((E - 1) * 4503599627370496 + M : Nat)) : Int) 9218868437227405312 = ((M - 4503599627370496 : Nat) : Int) := by
  generalize hb : (E - 1) * 4503599627370496 + M = b
  have hlt : b < 9223372036854775808 := by omega
  have h1 : (BitVec.ofInt 64 (b : Int)).toNat = b := by
    rw [BitVec.ofInt_natCast, BitVec.toNat_ofNat]; exact Nat.mod_eq_of_lt (by omega)
  have hx : (~~~(BitVec.ofInt 64 (9218868437227405312 : Int)) : BitVec 64) = BitVec.ofNat 64 (2 ^ 63) ||| BitVec.ofNat 64 (2 ^ 52 - 1) := by decide
  show IntKind.u64.wrap ((BitVec.ofInt 64 (b : Int) &&& ~~~(BitVec.ofInt 64 (9218868437227405312 : Int))).toNat : Int) = _
  rw [hx, BitVec.toNat_and, h1, BitVec.toNat_or, Nat.and_or_distrib_left]
  have e1 : (BitVec.ofNat 64 (2 ^ 63)).toNat = 2 ^ 63 := by decide
  have e2 : (BitVec.ofNat 64 (2 ^ 52 - 1)).toNat = 2 ^ 52 - 1 := by decide
  rw [e1, e2, Nat.and_two_pow_sub_one_eq_mod]
  have e3 : b &&& 2 ^ 63 = 0 := by
    have h63 : b = b &&& (2 ^ 63 - 1) := by rw [Nat.and_two_pow_sub_one_eq_mod, Nat.mod_eq_of_lt (by omega)]
    rw [h63, Nat.and_assoc, show ((2 ^ 63 - 1) &&& 2 ^ 63 : Nat) = 0 by decide, Nat.and_zero]
  rw [e3, Nat.zero_or, IntKind.wrap_u64]
  omega
def bitsOf (m : Nat) (last : Int) : Nat := (last + 1074).toNat * 4503599627370496 + m
theorem normalize_pos (b : Nat) (E M : Nat) (hb : b = (E - 1) * 4503599627370496 + M) (hE : 1 ≤ E) (hE2 : E ≤ 2046) (hM : 2 ^ 52 ≤ M) (hM2 : M < 2 ^ 53) : PNl.math_normalize.f b = some (b, 0) := by
  obtain ⟨f1, f2, f3, f4, f5⟩ := word_facts E M hE hE2 hM hM2
  rw [← hb] at f1 f2 f3 f4 f5
  have hlt : b < 9223372036854775808 := by unfold sgn at f4; have := of_decide_eq_false f4; omega
  unfold PNl.math_normalize.f
  rw [abs_law b f1.1, Option.bind_some, Nat.mod_eq_of_lt hlt]
  have ho := order_pos b 4503599627370496 f1 ⟨by omega, by omega⟩ f4 (by decide)
  have hc : (FloatKind.f64.format.order b 4503599627370496 == some .lt) = false := by
    rw [ho, f3, f5, show manti 4503599627370496 = 4503599627370496 by decide, show expoV 4503599627370496 = -1074 by decide, show min ((E : Int) - 1075) (-1074) = -1074 by omega]
    rw [beq_eq_false_iff_ne]
    intro h
    have h := Option.some.inj h
    rw [Int.compare_eq_lt] at h
    have hp : 0 < 2 ^ ((E : Int) - 1075 - -1074).toNat := Nat.pow_pos (by omega)
    have hle : M * 1 ≤ M * 2 ^ ((E : Int) - 1075 - -1074).toNat := Nat.mul_le_mul_left _ hp
    rw [show (-1074 - -1074 : Int).toNat = 0 from rfl, Nat.pow_zero, Nat.mul_one] at h
    have h52 : (2 : Nat) ^ 52 = 4503599627370496 := by decide
    generalize M * 2 ^ ((E : Int) - 1075 - -1074).toNat = Q at h hle
    omega
  rw [if_neg (by rw [hc]; decide)]
theorem order_zero_pos (b : Nat) (hb : Fin64 b) (hs : sgn b = false) (hm : manti b ≠ 0) : (FloatKind.f64.format.order b 0 == some .eq) = false := by
  rw [order_pos b 0 hb ⟨by omega, by omega⟩ hs (by decide), beq_eq_false_iff_ne]
  intro h
  have h := Option.some.inj h
  rw [Int.compare_eq_eq, show manti 0 = 0 by decide] at h
  have hp : 0 < 2 ^ (expoV b - min (expoV b) (expoV 0)).toNat := Nat.pow_pos (by omega)
  have := Nat.mul_pos (show 0 < manti b by omega) hp
  omega
theorem nearest_sub (m k : Nat) (h0 : m ≠ 0) (hm : m < 2 ^ 52) : double.nearest false (m * 2 ^ k) (-1074 - k) = m := by
  unfold Format.nearest
  have hk : 0 < 2 ^ k := Nat.pow_pos (by omega)
  have hL : m.log2 < 52 := (Nat.log2_lt h0).2 hm
  have hl1 := Nat.log2_self_le h0
  have hl2 := Nat.lt_log2_self (n := m)
  have hne : m * 2 ^ k ≠ 0 := by have := Nat.mul_pos (show 0 < m by omega) hk; omega
  have hl : (m * 2 ^ k).log2 = m.log2 + k := log2_eq (by rw [Nat.pow_add]; exact Nat.mul_le_mul_right _ hl1) (by rw [show m.log2 + k + 1 = m.log2 + 1 + k by omega, Nat.pow_add]; exact Nat.mul_lt_mul_of_pos_right hl2 hk)
  rw [if_neg hne]
  simp only [hl, lp, bn]
  have e1 : max (-1074 - (k : Int) + ((m.log2 + k : Nat) : Int) - (double.fractionBits : Int)) (-1074) = -1074 := by
    have : (double.fractionBits : Int) = 52 := rfl
    rw [this]; omega
  rw [e1, show (-1074 - (k : Int) - -1074).toNat = 0 by omega, show (-1074 - (-1074 - (k : Int))).toNat = k by omega, Nat.shiftLeft_zero, cut_exact m k (by rw [hl]; omega)]
  unfold Format.word
  simp only [Bool.false_eq_true, if_false]
  rw [show (-1074 - -1074 : Int).toNat = 0 from rfl, Nat.zero_mul, Nat.zero_add]
  exact Nat.min_eq_left (by rw [ir]; omega)
theorem join_word (b E M : Nat) (hmask : bits .andNot .u64 (b : Int) 9218868437227405312 = ((M - 4503599627370496 : Nat) : Int)) (hE : 1 ≤ E) (hE2 : E ≤ 2046) (hM : 2 ^ 52 ≤ M) (hM2 : M < 2 ^ 53) (t : Int) (ht : t = E) :
    (bits .or .u64 (bits .andNot .u64 (b : Int) 9218868437227405312) (IntKind.u64.wrap (IntKind.u64.wrap t * 4503599627370496)) : Int).toNat = (E - 1) * 4503599627370496 + M := by
  subst ht
  have h52 : (2 : Nat) ^ 52 = 4503599627370496 := by decide
  rw [hmask, u64_of (x := (E : Int)) (by omega) (by omega), u64_of (by omega) (by omega), show (E : Int) * 4503599627370496 = ((2 ^ 52 * E : Nat) : Int) by rw [h52]; omega, bits_or_u64_nat _ _ (by omega) (by omega), Nat.or_comm, or_add (by omega), Int.toNat_natCast]
  omega
structure Hide (p : Prop) : Prop where mk :: (out : p)
theorem up_104 (m M L : Nat) (hM : m * 2 ^ (52 - L) = M) (hL : L ≤ 52) : 4503599627370496 * M = m * 2 ^ (104 - L) := by
  have hp : 2 ^ (52 - L) * 2 ^ 52 = 2 ^ (104 - L) := by rw [← Nat.pow_add, show 52 - L + 52 = 104 - L by omega]
  have h52 : (2 : Nat) ^ 52 = 4503599627370496 := by decide
  rw [← hM, ← hp, h52, Nat.mul_comm 4503599627370496, Nat.mul_assoc]
theorem ldexp_law (m : Nat) (last : Int) (hm : m < 2 ^ 53) (hc : 2 ^ 52 ≤ m ∨ last = -1074) (h1 : -1074 ≤ last) (h2 : (bl m : Int) + last ≤ 1024) :
    PNl.math_Ldexp.f (floatOfInt .f64 (m : Int)) last = some (bitsOf m last) := by
  unfold PNl.math_Ldexp.f PNl.math_ldexp.f
  by_cases h0 : m = 0
  · subst h0
    obtain rfl : last = -1074 := by omega
    have e : floatOfInt .f64 ((0 : Nat) : Int) = 0 := by decide
    rw [e]
    have ho : (FloatKind.f64.format.order 0 0 == some .eq) = true := by rw [order_self ⟨by omega, by omega⟩]; rfl
    rw [if_pos ho]; rfl
  · have hL : m.log2 ≤ 52 := by have := (Nat.log2_lt h0).2 hm; omega
    obtain ⟨n1, n2⟩ := norm_range h0 hm
    rw [bl_pos h0] at h2
    rw [floatOf_pos h0 hm]
    obtain ⟨M, hM⟩ : ∃ M, m * 2 ^ (52 - m.log2) = M := ⟨_, rfl⟩
    rw [hM] at n1 n2 ⊢
    obtain ⟨L, hLL⟩ : ∃ L, m.log2 = L := ⟨_, rfl⟩
    rw [hLL] at hL h2 hM ⊢
    obtain ⟨b, hb⟩ : ∃ b, (L + 1022) * 4503599627370496 + M = b := ⟨_, rfl⟩
    rw [hb]
    have hb' : b = (L + 1023 - 1) * 4503599627370496 + M := by rw [← hb, show L + 1023 - 1 = L + 1022 from rfl]
    obtain ⟨f1, f2, f3, f4, f5⟩ := word_facts (L + 1023) M (by omega) (by omega) n1 n2
    rw [← hb'] at f1 f2 f3 f4 f5
    have hlt : b < 9223372036854775808 := by unfold sgn at f4; have := of_decide_eq_false f4; omega
    have hdiv : b / 4503599627370496 = L + 1023 := by unfold expo at f2; omega
    have kl1 : L + 1023 ≤ 2047 := by omega
    have kl2 : 1 ≤ L + 1023 := by omega
    have ez := order_zero_pos b f1 f4 (by rw [f3]; have h52 : (2 : Nat) ^ 52 = 4503599627370496 := (by decide); omega)
    rw [if_neg (by rw [ez]; decide), isInf_fin f1, Option.bind_some, if_neg (by decide), isNaN_fin f1, Option.bind_some, if_neg (by decide), normalize_pos b (L + 1023) M hb' (by omega) (by omega) n1 n2, Option.bind_some]
    simp only []
    have k1 : ¬ (last + (L : Int) < -1075) := by omega
    have k2 : ¬ (last + (L : Int) > 1023) := by omega
    have ex : wrap64 (wrap64 (last + 0) + wrap64 (bits .and .i64 (wrap64 ((b : Int) / 4503599627370496)) 2047 - 1023)) = last + L := by
      rw [show ((b : Int) / 4503599627370496) = ((L + 1023 : Nat) : Int) by omega, w64_nat (by omega), bits_and_i64_2047 _ (by omega), w64_of (x := last + 0) (by omega) (by omega), w64_of (x := ((L + 1023 : Nat) : Int) - 1023) (by omega) (by omega), w64_of (by omega) (by omega)]
      omega
    rw [ex, if_neg k1, if_neg k2]
    clear ex k1 k2
    have h52 : (2 : Nat) ^ 52 = 4503599627370496 := by decide
    by_cases hsub : last + L < -1022
    · rw [if_pos hsub]
      obtain ⟨E1, hE1⟩ : ∃ E1 : Nat, last + L + 1076 = (E1 : Int) := ⟨(last + L + 1076).toNat, by omega⟩
      have j1 : 1 ≤ E1 := by omega
      have j2 : E1 ≤ 2046 := by omega
      have ew : wrap64 (wrap64 (last + L + 53) + 1023) = (E1 : Int) := by rw [w64_of (x := last + L + 53) (by omega) (by omega), w64_of (by omega) (by omega)]; omega
      rw [join_word b E1 M (by rw [hb']; exact bits_mask (L + 1023) M kl1 n1 n2 kl2) j1 j2 n1 n2 _ ew]
      clear ew
      obtain ⟨g1, g2, g3, g4, g5⟩ := word_facts E1 M j1 j2 n1 n2
      have hml := mul_words 4368491638549381120 _ ⟨by decide, by decide⟩ g1 (by decide) g4
      rw [show manti 4368491638549381120 = 4503599627370496 by decide, show expoV 4368491638549381120 = -105 by decide, g3, g5] at hml
      replace hml := Hide.mk hml
      clear g1 g2 g3 g4 g5 f1 f2 f3 f4 f5 ez hb'
      have hlast : last = -1074 := by
        rcases hc with h | h
        · have : 52 ≤ m.log2 := (Nat.le_log2 h0).2 h
          omega
        · exact h
      have hm52 : m < 2 ^ 52 := by
        have : m.log2 < 52 := by omega
        exact (Nat.log2_lt h0).1 this
      have hn : double.nearest false (4503599627370496 * M) (-105 + ((E1 : Int) - 1075)) = m := by
        have e2 : (-105 + ((E1 : Int) - 1075)) = -1074 - ((104 - L : Nat) : Int) := by omega
        rw [up_104 m M L hM hL, e2]
        exact nearest_sub m _ h0 hm52
      have hml := hml.out
      rw [hn] at hml
      rw [hml]
      simp only [Option.isSome_some, if_true, Option.getD_some, Option.bind_some]
      unfold bitsOf
      rw [hlast]; simp
    · rw [if_neg hsub]
      have hL52 : L = 52 := by
        rcases hc with h | h
        · have : 52 ≤ m.log2 := (Nat.le_log2 h0).2 h
          omega
        · omega
      obtain ⟨E2, hE2⟩ : ∃ E2 : Nat, last + L + 1023 = (E2 : Int) := ⟨(last + L + 1023).toNat, by omega⟩
      have j1 : 1 ≤ E2 := by omega
      have j2 : E2 ≤ 2046 := by omega
      have ew : wrap64 (last + L + 1023) = (E2 : Int) := by rw [w64_of (by omega) (by omega)]; omega
      rw [join_word b E2 M (by rw [hb']; exact bits_mask (L + 1023) M kl1 n1 n2 kl2) j1 j2 n1 n2 _ ew]
      clear ew
      obtain ⟨g1, g2, g3, g4, g5⟩ := word_facts E2 M j1 j2 n1 n2
      have hml := mul_words 4607182418800017408 _ ⟨by decide, by decide⟩ g1 (by decide) g4
      rw [show manti 4607182418800017408 = 4503599627370496 by decide, show expoV 4607182418800017408 = -52 by decide, g3, g5] at hml
      replace hml := Hide.mk hml
      clear g1 g2 g3 g4 g5 f1 f2 f3 f4 f5 ez hb'
      have hMm : M = m := by rw [← hM, hL52]; simp
      have hn : double.nearest false (4503599627370496 * M) (-52 + ((E2 : Int) - 1075)) = bitsOf m last := by
        have := nearest_norm M last 52 n1 n2 h1 (by omega)
        rw [h52] at this
        rw [Nat.mul_comm, show (-52 + ((E2 : Int) - 1075)) = last - ((52 : Nat) : Int) by omega, this, hMm]; rfl
      have hml := hml.out
      rw [hn] at hml
      rw [hml]
      simp only [Option.isSome_some, if_true, Option.getD_some, Option.bind_some]
end Go.Proofs.YthmeocigliephaaGreatDoor.Plain
end
section
namespace Go.Proofs.YthmeocigliephaaGreatDoor.Plain
open Go.RowKit
def infB : Nat := 9218868437227405312
def tailV (m : Nat) (l : Int) : Nat :=
  if 53 < bl m then (if 1024 < (bl (m / 2) : Int) + (l + 1) then infB else bitsOf (m / 2) (l + 1))
  else if 1024 < (bl m : Int) + l then infB else bitsOf m l
def incV (n K : Nat) (up near : Bool) : Bool :=
  (up && decide (n % 2 ^ K ≠ 0)) || (near && (decide (2 ^ (K - 1) < n % 2 ^ K) || (decide (n % 2 ^ K = 2 ^ (K - 1)) && decide (n / 2 ^ K % 2 = 1))))
def lastV (t : Int) : Int := if t - 53 < -1074 then -1074 else t - 53
def magV (n : Nat) (e : Int) (up near : Bool) : Nat :=
  if 1024 < (bl n : Int) + e then (if (up || near) = true then infB else 9218868437227405311)
  else if (bl n : Int) + e < -1075 then (if up = true then 1 else 0)
  else if lastV (bl n + e) ≤ e then tailV (n * 2 ^ (e - lastV (bl n + e)).toNat) (lastV (bl n + e))
  else tailV (n / 2 ^ (lastV (bl n + e) - e).toNat + if incV n (lastV (bl n + e) - e).toNat up near = true then 1 else 0) (lastV (bl n + e))
theorem cmp3 (u v : Nat) : Big.cmpI (u : Int) (v : Int) = if v < u then 1 else if u = v then 0 else -1 := by
  unfold Big.cmpI
  split <;> split <;> (try split) <;> omega
theorem inc_law (n K1 : Nat) (up near : Bool) : ((up && (((n % 2 ^ (K1 + 1) : Nat) : Int).sign != 0)) || (near && (decide (Big.cmpI ((n % 2 ^ (K1 + 1) : Nat) : Int) ((2 ^ K1 : Nat) : Int) > 0) || ((Big.cmpI ((n % 2 ^ (K1 + 1) : Nat) : Int) ((2 ^ K1 : Nat) : Int) == 0) && (((n / 2 ^ (K1 + 1) % 2 : Nat) : Int) == 1))))) = incV n (K1 + 1) up near := by
  unfold incV
  rw [Nat.add_sub_cancel, cmp3]
  generalize n % 2 ^ (K1 + 1) = r
  generalize 2 ^ K1 = h
  generalize n / 2 ^ (K1 + 1) = q
  have e1 : ((r : Int).sign != 0) = decide (r ≠ 0) := by
    rcases Nat.eq_zero_or_pos r with h | h
    · subst h; rfl
    · rw [Int.sign_eq_one_of_pos (by omega), decide_eq_true (by omega)]; rfl
  have e2 : decide ((if h < r then (1 : Int) else if r = h then 0 else -1) > 0) = decide (h < r) := by
    split
    · next h1 => simp [h1]
    · next h1 => split <;> simp [h1]
  have e3 : ((if h < r then (1 : Int) else if r = h then 0 else -1) == 0) = decide (r = h) := by
    split
    · next h1 => rw [decide_eq_false (by omega)]; rfl
    · next h1 => split
                 · next h2 => rw [decide_eq_true h2]; rfl
                 · next h2 => rw [decide_eq_false h2]; rfl
  have e4 : (((q % 2 : Nat) : Int) == 1) = decide (q % 2 = 1) := by
    rcases Nat.mod_two_eq_zero_or_one q with h | h <;> rw [h] <;> rfl
  rw [e1, e2, e3, e4]
end Go.Proofs.YthmeocigliephaaGreatDoor.Plain
namespace Go.Proofs.YthmeocigliephaaGreatDoor.Big
open Go.Proofs.YthmeocigliephaaGreatDoor.PNa Go.Proofs.YthmeocigliephaaGreatDoor.Plain
attribute [local go_sem] f64bits_run f64from_run max2_int min2_int max_two min_two
theorem ZB.new2 (w : World) (n : Bool) (A : Option Addr) (m c : Nat) (o : Obj) : ZB ((w.alloc o).alloc (.cells #[.bool n, .slice A m c] 109 (0, 0))) (w.heap.size + 1) := by
  have := ZB.new' (w.alloc o) n A m c
  simpa using this
theorem inf_one : PNl.math_Inf.f 1 = some infB := by unfold PNl.math_Inf.f; rw [if_pos (by omega)]; rfl
theorem Rsh1_calls (z x n : Nat) (w : World) (hz : ZB w z) (hx : IntV w x n) (hs : Short n) :
    Calls Tryz.prog 132 #[.pointer (some ⟨z, 0, none⟩), .pointer (some ⟨x, 0, none⟩), .int .u64 1] w (Gave z ((n / 2 : Nat) : Int) w) := by
  have := rsh_any z x 1 n w hz hx hs (by omega)
  rwa [Nat.pow_one] at this
theorem tail_one (m : Nat) (L : Int) (B1 B2 m2 : Nat) (h1 : m ≤ 9007199254740992) (h2 : 4503599627370496 ≤ m ∨ L = -1074) (hl : -1074 ≤ L) (hB1 : bl m = B1) (hm2 : m / 2 = m2) (hB2 : bl m2 = B2) (hb : 53 < B1) (ho : ¬ 1024 < (B2 : Int) + (L + 1)) :
    PNl.math_Ldexp.f (floatOfInt .f64 (m2 : Int)) (L + 1) = some (tailV m L) := by
  have hm : m = 9007199254740992 := by
    have : ¬ m < 2 ^ 53 := fun h => by have := bl_le.2 h; omega
    have h3 : (2 : Nat) ^ 53 = 9007199254740992 := by decide
    omega
  have e : tailV m L = bitsOf m2 (L + 1) := by unfold tailV; rw [hB1, if_pos hb, hm2, hB2, if_neg ho]
  rw [e]
  have h3 : (2 : Nat) ^ 53 = 9007199254740992 := by decide
  have h4 : (2 : Nat) ^ 52 = 4503599627370496 := by decide
  exact ldexp_law m2 (L + 1) (by omega) (.inl (by omega)) (by omega) (by rw [hB2]; omega)
theorem tail_two (m : Nat) (L : Int) (B1 : Nat) (h1 : m ≤ 9007199254740992) (h2 : 4503599627370496 ≤ m ∨ L = -1074) (hl : -1074 ≤ L) (hB1 : bl m = B1) (hb : ¬ 53 < B1) (ho : ¬ 1024 < (B1 : Int) + L) :
    PNl.math_Ldexp.f (floatOfInt .f64 (m : Int)) L = some (tailV m L) := by
  have hm : m < 2 ^ 53 := bl_le.1 (by omega)
  have e : tailV m L = bitsOf m L := by unfold tailV; rw [hB1, if_neg hb, if_neg ho]
  rw [e]
  have h4 : (2 : Nat) ^ 52 = 4503599627370496 := by decide
  exact ldexp_law m L hm (h2.imp (by omega) id) hl (by rw [hB1]; omega)
section
variable (b n : Nat) (e top : Int) (up near : Bool) (w : World)
  (hx : IntV w b n) (hs : Short n)
include hx hs
theorem mag_cut (K1 : Nat) (L : Int) (q r h m1 : Nat) (c s : Int) (inc : Bool) (he0 : -200000 ≤ e) (he1 : e ≤ 200000)
    (ht0 : -1075 ≤ top) (ht1 : top ≤ 1024) (hL : lastV top = L) (hK : L - e = (K1 : Int) + 1)
    (hq : n / 2 ^ (K1 + 1) = q) (hr : n % 2 ^ (K1 + 1) = r) (hh : 2 ^ K1 = h) (hc : cmpI (r : Int) (h : Int) = c) (hsg : ((r : Nat) : Int).sign = s)
    (hm1 : q + (if inc = true then 1 else 0) = m1)
    (hinc : incV n (K1 + 1) up near = inc) (hsh : Short (2 ^ K1)) (ht53 : m1 ≤ 9007199254740992) (ht52 : 4503599627370496 ≤ m1 ∨ L = -1074) :
    Calls Tryz.prog 127 #[.pointer (some ⟨b, 0, none⟩), .int .i64 e, .int .i64 top, .bool false, .bool up, .bool near] w
      (fun rr w' => rr = .returned (.float .f64 (tailV m1 L)) ∧ Below w.heap.size w w') := by
  have hl0 : -1074 ≤ L := by rw [← hL]; unfold lastV; split <;> omega
  have hl1 : L ≤ 971 := by rw [← hL]; unfold lastV; split <;> omega
  have g1 : decide (top > 1024) = false := by simp; omega
  have g2 : decide (top < -1075) = false := by simp; omega
  unfold lastV at hL
  have hk0 : (0 : Int) ≤ (K1 : Int) := by omega
  have hk1 : (K1 : Int) ≤ 210000 := by omega
  have HX := asd hx
  have HS := asd hs
  have HC := asd hc
  have HM := asd hm1
  have HSG := asd hsg
  have HH := asd hh
  have HSH := asd hsh
  have HINC := asd hinc
  have HINC2 := asd (show ((up && (s != 0)) || (near && (decide (c > 0) || ((c == 0) && (((q % 2 : Nat) : Int) == 1))))) = inc by
    rw [← hinc, ← hsg, ← hc, ← hh, ← hr, ← hq]
    exact inc_law n K1 up near)
  have HT1 := asd ht53
  have HT2 := asd ht52
  have SM1 := asd (show Short m1 from Short.of (k := 2) (Nat.lt_of_le_of_lt ht53 (by decide)) (by omega))
  clear ht53 ht52
  have HQ := asd hq
  have HR := asd hr
  have hdm := Nat.div_add_mod n (2 ^ (K1 + 1))
  rw [hq, hr, Nat.mul_comm] at hdm
  have SUB := asd (show (n : Int) - (q : Int) * 2 ^ (K1 + 1) = (r : Int) by
    have : ((q * 2 ^ (K1 + 1) : Nat) : Int) = (q : Int) * 2 ^ (K1 + 1) := by simp
    omega)
  have SQ := asd (show Short ((q : Int) * 2 ^ (K1 + 1)).natAbs by
    rw [show (q : Int) * 2 ^ (K1 + 1) = ((q * 2 ^ (K1 + 1) : Nat) : Int) by simp, Int.natAbs_natCast]
    exact hs.mono (by omega))
  have POW := asd (show (1 : Int) * 2 ^ K1 = (h : Int) by rw [← hh]; simp)
  have S1 := asd (show Short (1 : Int).natAbs from Short.of (k := 1) (by simp) (by omega))
  have SR := asd (show Short r from hs.mono (by omega))
  have SQ1 := asd (show Short q by rw [← hq]; exact hs.mono (Nat.div_le_self _ _))
  have SH := asd (show Short h by rw [← hh]; exact hsh)
  clear hdm hinc hx hs hc hm1 hsg hh hsh hq hr
  have tok1 : True := trivial
  go_enter Tryz.func127, Tryz.ntmps127
  go_upto_region 16 with (first
    | (go_at_call 132; refine (rsh_any _ b (K1 + 1) n _ (ZB.new' _ _ _ _ _) (HX.out.below (by exact (Below.refl _ _).alloc (Nat.le_refl _) _)) HS.out (by omega)).mono ?_; rintro e1 w4 ⟨rfl, o4, i4⟩; rw [HQ.out] at i4; have B4 := asd (below_only ((Below.refl w.heap.size w).alloc (Nat.le_refl _) _) o4 (by simp) (Nat.le_refl _)); have X4 := asd (HX.out.below B4.out); have I4 := asd i4; have lt4 := asd i4.lt; clear o4 i4)
    | (go_at_call 136; have _t := tok1; refine (Lsh_calls _ w.heap.size (K1 + 1) q _ (ZB.new2 _ _ _ _ _ _) (I4.out.below (by exact ((Below.refl _ _).alloc (Nat.le_refl _) _).alloc (by simp) _)) (by have := HS.out.mono (m := q) (by rw [← HQ.out]; exact Nat.div_le_self _ _); simpa using this) (by omega)).mono ?_; rintro e1 w5 ⟨rfl, o5, j5⟩; have B5 := asd (below_only (((B4.out.alloc B4.out.size _).alloc (by have := lt4.out; simp; omega) _)) o5 (by have := lt4.out; simp; omega) (by have := lt4.out; omega)); have bb5 := below_only (((Below.refl w4.heap.size w4).alloc (Nat.le_refl _) (.cells #[.bool false, .slice none 0 0] 109 (0, 0))).alloc (by simp) (.cells #[.bool false, .slice none 0 0] 109 (0, 0))) o5 (by simp; omega) (by omega); have I5 := asd (I4.out.below bb5); have X5 := asd (HX.out.below B5.out); have Z5 := asd (show ZB w5 w4.heap.size from ZB.only (ZB.below (ZB.new' w4 false none 0 0) ((Below.refl _ _).alloc (Nat.le_refl _) _)) o5 (by omega)); have J5 := asd j5; clear bb5 o5 j5 _t tok1)
    | (go_at_call 142; refine (sub_any w4.heap.size b (w4.heap.size + 1) n (q * 2 ^ (K1 + 1)) _ Z5.out X5.out J5.out (by have := HS.out; simpa using this) SQ.out).mono ?_; rintro e1 w6 ⟨rfl, o6, i6⟩; rw [SUB.out] at i6; have I6 := asd (I5.out.only o6 (.inl Z5.out) (by have := lt4.out; omega)); have B6 := asd (below_only B5.out o6 B5.out.size (by have := lt4.out; omega)); have J6 := asd i6; have lt6 := asd i6.lt; have mt6 := asd I6.out.lt; clear o6 i6)
    | (go_at_call 144; refine (newInt_any 1 _ (by omega) (by omega)).mono ?_; rintro e1 w7 ⟨b7, rfl, i7, b7', n7⟩; have B7 := asd (below_post b7' (B6.out.alloc B6.out.size _)); have bb7 := below_post b7' ((Below.refl w6.heap.size w6).alloc (Nat.le_refl _) _); have I7 := asd (I6.out.below bb7); have J7 := asd (J6.out.below bb7); have K7 := asd i7; have Z7 := asd (ZB.below (ZB.new' w6 false none 0 0) b7'); have N7 := asd (show w6.heap.size + 1 ≤ b7 by simpa using n7); clear i7 b7' n7 bb7)
    | (go_at_call 136; refine (Lsh_calls w6.heap.size b7 K1 1 _ Z7.out K7.out S1.out (by omega)).mono ?_; rintro e1 w8 ⟨rfl, o8, i8⟩; rw [POW.out] at i8; have I8 := asd (I7.out.only o8 (.inl Z7.out) (by have := mt6.out; omega)); have J8 := asd (J7.out.only o8 (.inl Z7.out) (by have := lt6.out; omega)); have B8 := asd (below_only B7.out o8 B7.out.size B6.out.size); have K8 := asd i8; clear o8 i8)
    | (go_at_call 143; refine (cmp_any w4.heap.size w6.heap.size r h _ J8.out K8.out (by simpa using SR.out) (by simpa using SH.out)).mono ?_; rw [HC.out]; rintro e1 w9 ⟨rfl, d9⟩; have I9 := asd (I8.out.below d9.below); have J9 := asd (J8.out.below d9.below); have B9 := asd (below_post d9.below B8.out); clear d9))
  go_cut [60] (fun v60 wc => v60 = .bool false ∧ wc = w9)
  case first =>
    have hcc : (c == 0) = true ∨ (c == 0) = false := by cases (c == 0) <;> simp
    rcases hcc with hcc | hcc
    · go_wp2
      go_meet
      exact ⟨rfl, rfl⟩
    · go_wp2
      go_meet
      exact ⟨rfl, rfl⟩
  case rest =>
    obtain ⟨rfl, rfl⟩ := hcut
    go_upto_region 21 with (go_at_call 130; refine (sign_any' _ r s _ J9.out HSG.out).mono ?_; rintro e1 w1 ⟨rfl, rfl⟩)
    go_cut [3, 95] (fun v3 v95 wd => v95 = .bool inc ∧ wd = wc)
    case first =>
      have h1 : (s != 0) = true ∨ (s != 0) = false := by cases (s != 0) <;> simp
      have h2 : decide (c > 0) = true ∨ decide (c > 0) = false := by cases decide (c > 0) <;> simp
      have h3 : (c == 0) = true ∨ (c == 0) = false := by cases (c == 0) <;> simp
      rcases h1 with h1 | h1 <;> rcases h2 with h2 | h2 <;> rcases h3 with h3 | h3 <;> cases up <;> cases near
      all_goals
        go_wp2_with (go_at_call 145; refine (bit0_any _ q _ I9.out).mono ?_; rintro e1 w1 ⟨rfl, rfl⟩)
        go_meet
        refine ⟨congrArg Value.bool ?_, rfl⟩
        have hi := HINC2.out
        rw [h1, h2, h3] at hi
        simpa using hi
    case rest =>
      obtain ⟨rfl, rfl⟩ := hcut
      go_upto_if 95 with (fail)
      go_cut [3] (fun v3 we => Aside0 (IntV we w.heap.size m1 ∧ Below w.heap.size w we))
      case first =>
        cases inc
        · go_wp2
          go_meet
          have hm : q = m1 := by simpa using HM.out
          subst hm
          exact asd ⟨I9.out, B9.out⟩
        · go_wp2_with (first
            | (go_at_call 144; refine (newInt_any 1 _ (by omega) (by omega)).mono ?_; rintro e1 wx ⟨bx, rfl, ix, bx', nx⟩; have BX := asd (below_post bx' B9.out); have IX := asd (I9.out.below bx'); have JX := asd ix; clear ix bx' nx)
            | (go_at_call 107; refine (add_any w.heap.size w.heap.size bx q 1 _ IX.out.z IX.out JX.out (by simpa using SQ1.out) S1.out).mono ?_; rintro e1 wy ⟨rfl, oy, iy⟩; have BY := asd (below_only BX.out oy BX.out.size (Nat.le_refl _)); have IY := asd iy; clear oy iy))
          go_meet
          have hm : q + 1 = m1 := by simpa using HM.out
          subst hm
          exact asd ⟨by simpa using IY.out, BY.out⟩
      case rest =>
        have IM := asd hcut.out.1
        have BM := asd hcut.out.2
        clear hcut
        have tok1 : True := trivial
        obtain ⟨B1, hB1⟩ : ∃ B1, bl m1 = B1 := ⟨_, rfl⟩
        have HB1 := asd hB1
        have hs1 := SM1.out.bl
        rw [hB1] at hs1
        have hp1 : (0 : Int) ≤ (B1 : Int) := by omega
        have hp2 : (B1 : Int) ≤ 562949953421280 := by omega
        by_cases hb : 53 < B1
        · have d1 : decide ((B1 : Int) > 53) = true := by simp; omega
          obtain ⟨m2, hm2⟩ : ∃ m2, m1 / 2 = m2 := ⟨_, rfl⟩
          have HM2 := asd hm2
          have SM2 := asd (show Short m2 by rw [← hm2]; exact SM1.out.mono (Nat.div_le_self _ _))
          obtain ⟨B2, hB2⟩ : ∃ B2, bl m2 = B2 := ⟨_, rfl⟩
          have HB2 := asd hB2
          have hs2 := SM2.out.bl
          rw [hB2] at hs2
          have hp3 : (0 : Int) ≤ (B2 : Int) := by omega
          have hp4 : (B2 : Int) ≤ 562949953421280 := by omega
          by_cases ho : 1024 < (B2 : Int) + (L + 1)
          · have d2 : decide ((B2 : Int) + (L + 1) > 1024) = true := by simp; omega
            have hT : tailV m1 L = infB := by unfold tailV; rw [hB1, if_pos hb, hm2, hB2, if_pos ho]
            have HTT := asd hT
            clear hB1 hm2 hB2 hs1 hs2 hb ho hT
            go_wp2_with (first
              | (go_at_call 126; have _t := tok1; refine (bitLen_any' _ m1 B1 _ IM.out SM1.out HB1.out).mono ?_; rintro e1 wf ⟨rfl, df⟩; have IF := asd (IM.out.below df.below); have BF := asd (below_post df.below BM.out); clear df _t tok1)
              | (go_at_call 132; refine (Rsh1_calls _ _ m1 _ IF.out.z IF.out SM1.out).mono ?_; rintro e1 wg ⟨rfl, og, ig⟩; rw [HM2.out] at ig; have IG := asd ig; have BG := asd (below_only BF.out og BF.out.size (Nat.le_refl _)); clear og ig)
              | (go_at_call 126; refine (bitLen_any' _ m2 B2 _ IG.out SM2.out HB2.out).mono ?_; rintro e1 wh ⟨rfl, dh⟩; have IH := asd (IG.out.below dh.below); have BH := asd (below_post dh.below BG.out); clear dh)
              | (go_at_call 109; refine (PNl.math_Inf.calls 1 infB _ inf_one).mono ?_; rintro e1 wi ⟨rfl, di⟩; have BI := asd (below_post di.below BH.out); clear di))
            go_ret
            exact ⟨by rw [HTT.out]; rfl, BI.out⟩
          · have d2 : decide ((B2 : Int) + (L + 1) > 1024) = false := by simp; omega
            have LD := asd (tail_one m1 L B1 B2 m2 HT1.out HT2.out hl0 hB1 hm2 hB2 hb ho)
            have LT := asd (show m2 ≤ 9007199254740992 by have := HT1.out; omega)
            clear hB1 hm2 hB2 hs1 hs2 hb ho
            go_wp2_with (first
              | (go_at_call 126; have _t := tok1; refine (bitLen_any' _ m1 B1 _ IM.out SM1.out HB1.out).mono ?_; rintro e1 wf ⟨rfl, df⟩; have IF := asd (IM.out.below df.below); have BF := asd (below_post df.below BM.out); clear df _t tok1)
              | (go_at_call 132; refine (Rsh1_calls _ _ m1 _ IF.out.z IF.out SM1.out).mono ?_; rintro e1 wg ⟨rfl, og, ig⟩; rw [HM2.out] at ig; have IG := asd ig; have BG := asd (below_only BF.out og BF.out.size (Nat.le_refl _)); clear og ig)
              | (go_at_call 126; refine (bitLen_any' _ m2 B2 _ IG.out SM2.out HB2.out).mono ?_; rintro e1 wh ⟨rfl, dh⟩; have IH := asd (IG.out.below dh.below); have BH := asd (below_post dh.below BG.out); clear dh)
              | (go_at_call 147; refine (uint64_any _ m2 _ IH.out (by have := LT.out; omega)).mono ?_; rintro e1 wi ⟨rfl, rfl⟩)
              | (go_at_call 146; refine (PNl.math_Ldexp.calls _ _ (tailV m1 L) _ LD.out).mono ?_; rintro e1 wj ⟨rfl, dj⟩; have BI := asd (below_post dj.below BH.out); clear dj))
            go_ret
            exact ⟨rfl, BI.out⟩
        · have d1 : decide ((B1 : Int) > 53) = false := by simp; omega
          by_cases ho : 1024 < (B1 : Int) + L
          · have d2 : decide ((B1 : Int) + L > 1024) = true := by simp; omega
            have hT : tailV m1 L = infB := by unfold tailV; rw [hB1, if_neg hb, if_pos ho]
            have HTT := asd hT
            clear hB1 hs1 hb ho hT
            go_wp2_with (first
              | (go_at_call 126; have _t := tok1; refine (bitLen_any' _ m1 B1 _ IM.out SM1.out HB1.out).mono ?_; rintro e1 wf ⟨rfl, df⟩; have IF := asd (IM.out.below df.below); have BF := asd (below_post df.below BM.out); clear df _t tok1)
              | (go_at_call 126; refine (bitLen_any' _ m1 B1 _ IF.out SM1.out HB1.out).mono ?_; rintro e1 wh ⟨rfl, dh⟩; have IH := asd (IF.out.below dh.below); have BH := asd (below_post dh.below BF.out); clear dh)
              | (go_at_call 109; refine (PNl.math_Inf.calls 1 infB _ inf_one).mono ?_; rintro e1 wi ⟨rfl, di⟩; have BI := asd (below_post di.below BH.out); clear di))
            go_ret
            exact ⟨by rw [HTT.out]; rfl, BI.out⟩
          · have d2 : decide ((B1 : Int) + L > 1024) = false := by simp; omega
            have LD := asd (tail_two m1 L B1 HT1.out HT2.out hl0 hB1 hb ho)
            have LT := asd (show m1 ≤ 9007199254740992 by have := HT1.out; omega)
            clear hB1 hs1 hb ho
            go_wp2_with (first
              | (go_at_call 126; have _t := tok1; refine (bitLen_any' _ m1 B1 _ IM.out SM1.out HB1.out).mono ?_; rintro e1 wf ⟨rfl, df⟩; have IF := asd (IM.out.below df.below); have BF := asd (below_post df.below BM.out); clear df _t tok1)
              | (go_at_call 126; refine (bitLen_any' _ m1 B1 _ IF.out SM1.out HB1.out).mono ?_; rintro e1 wh ⟨rfl, dh⟩; have IH := asd (IF.out.below dh.below); have BH := asd (below_post dh.below BF.out); clear dh)
              | (go_at_call 147; refine (uint64_any _ m1 _ IH.out (by have := LT.out; omega)).mono ?_; rintro e1 wi ⟨rfl, rfl⟩)
              | (go_at_call 146; refine (PNl.math_Ldexp.calls _ _ (tailV m1 L) _ LD.out).mono ?_; rintro e1 wj ⟨rfl, dj⟩; have BI := asd (below_post dj.below BH.out); clear dj))
            go_ret
            exact ⟨rfl, BI.out⟩
end
end Go.Proofs.YthmeocigliephaaGreatDoor.Big
end
section
namespace Go.Proofs.YthmeocigliephaaGreatDoor.Big
open Go.Proofs.YthmeocigliephaaGreatDoor.PNa Go.Proofs.YthmeocigliephaaGreatDoor.Plain
attribute [local go_sem] f64bits_run f64from_run max2_int min2_int max_two min_two
section
variable (b n : Nat) (e top : Int) (up near : Bool) (w : World)
  (hx : IntV w b n) (hs : Short n)
include hx hs
theorem mag_left (K : Nat) (L : Int) (m1 : Nat) (he0 : -200000 ≤ e) (he1 : e ≤ 200000)
    (ht0 : -1075 ≤ top) (ht1 : top ≤ 1024) (hL : lastV top = L) (hK : L - e = -(K : Int))
    (hm1 : n * 2 ^ K = m1) (ht53 : m1 ≤ 9007199254740992) (ht52 : 4503599627370496 ≤ m1 ∨ L = -1074) :
    Calls Tryz.prog 127 #[.pointer (some ⟨b, 0, none⟩), .int .i64 e, .int .i64 top, .bool false, .bool up, .bool near] w
      (fun rr w' => rr = .returned (.float .f64 (tailV m1 L)) ∧ Below w.heap.size w w') := by
  have hl0 : -1074 ≤ L := by rw [← hL]; unfold lastV; split <;> omega
  have hl1 : L ≤ 971 := by rw [← hL]; unfold lastV; split <;> omega
  have g1 : decide (top > 1024) = false := by simp; omega
  have g2 : decide (top < -1075) = false := by simp; omega
  unfold lastV at hL
  have hk0 : (0 : Int) ≤ (K : Int) := by omega
  have hk1 : (K : Int) ≤ 210000 := by omega
  have HX := asd hx
  have HS := asd hs
  have HM := asd hm1
  have HT1 := asd ht53
  have HT2 := asd ht52
  have SM1 := asd (show Short m1 from Short.of (k := 2) (Nat.lt_of_le_of_lt ht53 (by decide)) (by omega))
  clear hx hs hm1 ht53 ht52
  go_enter Tryz.func127, Tryz.ntmps127
  go_upto_region 21 with (go_at_call 136; refine (Lsh_calls _ b K n _ (ZB.new' _ _ _ _ _) (HX.out.below (by exact (Below.refl _ _).alloc (Nat.le_refl _) _)) (by simpa using HS.out) (by omega)).mono ?_; rintro e1 w4 ⟨rfl, o4, i4⟩; have B4 := asd (below_only ((Below.refl w.heap.size w).alloc (Nat.le_refl _) _) o4 (by simp) (Nat.le_refl _)); have I4 := asd (show IntV w4 w.heap.size m1 by rw [← HM.out]; simpa using i4); clear o4 i4)
  go_cut [95] (fun v95 wc => v95 = .bool false ∧ Aside0 (IntV wc w.heap.size m1 ∧ Below w.heap.size w wc))
  case first =>
    cases up <;> cases near
    all_goals
      go_wp2
      go_meet
      exact ⟨rfl, ⟨I4.out, B4.out⟩⟩
  case rest =>
    obtain ⟨rfl, hcut⟩ := hcut
    have IM := asd hcut.out.1
    have BM := asd hcut.out.2
    clear hcut
    have tok1 : True := trivial
    obtain ⟨B1, hB1⟩ : ∃ B1, bl m1 = B1 := ⟨_, rfl⟩
    have HB1 := asd hB1
    have hs1 := SM1.out.bl
    rw [hB1] at hs1
    have hp1 : (0 : Int) ≤ (B1 : Int) := by omega
    have hp2 : (B1 : Int) ≤ 562949953421280 := by omega
    by_cases hb : 53 < B1
    · have d1 : decide ((B1 : Int) > 53) = true := by simp; omega
      obtain ⟨m2, hm2⟩ : ∃ m2, m1 / 2 = m2 := ⟨_, rfl⟩
      have HM2 := asd hm2
      have SM2 := asd (show Short m2 by rw [← hm2]; exact SM1.out.mono (Nat.div_le_self _ _))
      obtain ⟨B2, hB2⟩ : ∃ B2, bl m2 = B2 := ⟨_, rfl⟩
      have HB2 := asd hB2
      have hs2 := SM2.out.bl
      rw [hB2] at hs2
      have hp3 : (0 : Int) ≤ (B2 : Int) := by omega
      have hp4 : (B2 : Int) ≤ 562949953421280 := by omega
      by_cases ho : 1024 < (B2 : Int) + (L + 1)
      · have d2 : decide ((B2 : Int) + (L + 1) > 1024) = true := by simp; omega
        have hT : tailV m1 L = infB := by unfold tailV; rw [hB1, if_pos hb, hm2, hB2, if_pos ho]
        have HTT := asd hT
        clear hB1 hm2 hB2 hs1 hs2 hb ho hT
        go_wp2_with (first
          | (go_at_call 126; have _t := tok1; refine (bitLen_any' _ m1 B1 _ IM.out SM1.out HB1.out).mono ?_; rintro e1 wf ⟨rfl, df⟩; have IF := asd (IM.out.below df.below); have BF := asd (below_post df.below BM.out); clear df _t tok1)
          | (go_at_call 132; refine (Rsh1_calls _ _ m1 _ IF.out.z IF.out SM1.out).mono ?_; rintro e1 wg ⟨rfl, og, ig⟩; rw [HM2.out] at ig; have IG := asd ig; have BG := asd (below_only BF.out og BF.out.size (Nat.le_refl _)); clear og ig)
          | (go_at_call 126; refine (bitLen_any' _ m2 B2 _ IG.out SM2.out HB2.out).mono ?_; rintro e1 wh ⟨rfl, dh⟩; have IH := asd (IG.out.below dh.below); have BH := asd (below_post dh.below BG.out); clear dh)
          | (go_at_call 109; refine (PNl.math_Inf.calls 1 infB _ inf_one).mono ?_; rintro e1 wi ⟨rfl, di⟩; have BI := asd (below_post di.below BH.out); clear di))
        go_ret
        exact ⟨by rw [HTT.out]; rfl, BI.out⟩
      · have d2 : decide ((B2 : Int) + (L + 1) > 1024) = false := by simp; omega
        have LD := asd (tail_one m1 L B1 B2 m2 HT1.out HT2.out hl0 hB1 hm2 hB2 hb ho)
        have LT := asd (show m2 ≤ 9007199254740992 by have := HT1.out; omega)
        clear hB1 hm2 hB2 hs1 hs2 hb ho
        go_wp2_with (first
          | (go_at_call 126; have _t := tok1; refine (bitLen_any' _ m1 B1 _ IM.out SM1.out HB1.out).mono ?_; rintro e1 wf ⟨rfl, df⟩; have IF := asd (IM.out.below df.below); have BF := asd (below_post df.below BM.out); clear df _t tok1)
          | (go_at_call 132; refine (Rsh1_calls _ _ m1 _ IF.out.z IF.out SM1.out).mono ?_; rintro e1 wg ⟨rfl, og, ig⟩; rw [HM2.out] at ig; have IG := asd ig; have BG := asd (below_only BF.out og BF.out.size (Nat.le_refl _)); clear og ig)
          | (go_at_call 126; refine (bitLen_any' _ m2 B2 _ IG.out SM2.out HB2.out).mono ?_; rintro e1 wh ⟨rfl, dh⟩; have IH := asd (IG.out.below dh.below); have BH := asd (below_post dh.below BG.out); clear dh)
          | (go_at_call 147; refine (uint64_any _ m2 _ IH.out (by have := LT.out; omega)).mono ?_; rintro e1 wi ⟨rfl, rfl⟩)
          | (go_at_call 146; refine (PNl.math_Ldexp.calls _ _ (tailV m1 L) _ LD.out).mono ?_; rintro e1 wj ⟨rfl, dj⟩; have BI := asd (below_post dj.below BH.out); clear dj))
        go_ret
        exact ⟨rfl, BI.out⟩
    · have d1 : decide ((B1 : Int) > 53) = false := by simp; omega
      by_cases ho : 1024 < (B1 : Int) + L
      · have d2 : decide ((B1 : Int) + L > 1024) = true := by simp; omega
        have hT : tailV m1 L = infB := by unfold tailV; rw [hB1, if_neg hb, if_pos ho]
        have HTT := asd hT
        clear hB1 hs1 hb ho hT
        go_wp2_with (first
          | (go_at_call 126; have _t := tok1; refine (bitLen_any' _ m1 B1 _ IM.out SM1.out HB1.out).mono ?_; rintro e1 wf ⟨rfl, df⟩; have IF := asd (IM.out.below df.below); have BF := asd (below_post df.below BM.out); clear df _t tok1)
          | (go_at_call 126; refine (bitLen_any' _ m1 B1 _ IF.out SM1.out HB1.out).mono ?_; rintro e1 wh ⟨rfl, dh⟩; have IH := asd (IF.out.below dh.below); have BH := asd (below_post dh.below BF.out); clear dh)
          | (go_at_call 109; refine (PNl.math_Inf.calls 1 infB _ inf_one).mono ?_; rintro e1 wi ⟨rfl, di⟩; have BI := asd (below_post di.below BH.out); clear di))
        go_ret
        exact ⟨by rw [HTT.out]; rfl, BI.out⟩
      · have d2 : decide ((B1 : Int) + L > 1024) = false := by simp; omega
        have LD := asd (tail_two m1 L B1 HT1.out HT2.out hl0 hB1 hb ho)
        have LT := asd (show m1 ≤ 9007199254740992 by have := HT1.out; omega)
        clear hB1 hs1 hb ho
        go_wp2_with (first
          | (go_at_call 126; have _t := tok1; refine (bitLen_any' _ m1 B1 _ IM.out SM1.out HB1.out).mono ?_; rintro e1 wf ⟨rfl, df⟩; have IF := asd (IM.out.below df.below); have BF := asd (below_post df.below BM.out); clear df _t tok1)
          | (go_at_call 126; refine (bitLen_any' _ m1 B1 _ IF.out SM1.out HB1.out).mono ?_; rintro e1 wh ⟨rfl, dh⟩; have IH := asd (IF.out.below dh.below); have BH := asd (below_post dh.below BF.out); clear dh)
          | (go_at_call 147; refine (uint64_any _ m1 _ IH.out (by have := LT.out; omega)).mono ?_; rintro e1 wi ⟨rfl, rfl⟩)
          | (go_at_call 146; refine (PNl.math_Ldexp.calls _ _ (tailV m1 L) _ LD.out).mono ?_; rintro e1 wj ⟨rfl, dj⟩; have BI := asd (below_post dj.below BH.out); clear dj))
        go_ret
        exact ⟨rfl, BI.out⟩
end
section
variable (b : Nat) (e top : Int) (up near : Bool) (w : World)
theorem mag_over (he0 : -200000 ≤ e) (he1 : e ≤ 200000) (ht0 : 1024 < top) (ht1 : top ≤ 1000000) :
    Calls Tryz.prog 127 #[.pointer (some ⟨b, 0, none⟩), .int .i64 e, .int .i64 top, .bool false, .bool up, .bool near] w
      (fun rr w' => rr = .returned (.float .f64 (if (up || near) = true then infB else 9218868437227405311)) ∧ Below w.heap.size w w') := by
  have g1 : decide (top > 1024) = true := by simp; omega
  obtain ⟨L, hL⟩ : ∃ L, lastV top = L := ⟨_, rfl⟩
  unfold lastV at hL
  cases up <;> cases near
  all_goals
    go_enter Tryz.func127, Tryz.ntmps127
    go_wp2_with (go_at_call 109; refine (PNl.math_Inf.calls 1 infB _ inf_one).mono ?_; rintro e1 wi ⟨rfl, di⟩; have BI := asd di.below; clear di)
    go_ret
    exact ⟨rfl, by first | exact BI.out | exact Below.refl _ _⟩
theorem mag_under (he0 : -200000 ≤ e) (he1 : e ≤ 200000) (ht0 : top < -1075) (ht1 : -1000000 ≤ top) :
    Calls Tryz.prog 127 #[.pointer (some ⟨b, 0, none⟩), .int .i64 e, .int .i64 top, .bool false, .bool up, .bool near] w
      (fun rr w' => rr = .returned (.float .f64 (if up = true then 1 else 0)) ∧ Below w.heap.size w w') := by
  have g1 : decide (top > 1024) = false := by simp; omega
  have g2 : decide (top < -1075) = true := by simp; omega
  obtain ⟨L, hL⟩ : ∃ L, lastV top = L := ⟨_, rfl⟩
  unfold lastV at hL
  cases up
  all_goals
    go_enter Tryz.func127, Tryz.ntmps127
    go_wp2_with fail
    go_ret
    exact ⟨rfl, Below.refl _ _⟩
end
theorem magnitude_any (b n : Nat) (e : Int) (up near : Bool) (w : World) (hx : IntV w b n) (hs : Short n) (hn : n ≠ 0) (he0 : -100000 ≤ e) (he1 : e ≤ 100000) (hb : bl n ≤ 100000) :
    Calls Tryz.prog 127 #[.pointer (some ⟨b, 0, none⟩), .int .i64 e, .int .i64 ((bl n : Int) + e), .bool false, .bool up, .bool near] w
      (fun rr w' => rr = .returned (.float .f64 (magV n e up near)) ∧ Below w.heap.size w w') := by
  unfold magV
  obtain ⟨top, ht⟩ : ∃ top, (bl n : Int) + e = top := ⟨_, rfl⟩
  rw [ht]
  by_cases h1 : 1024 < top
  · simp only [if_pos h1]; exact mag_over b e top up near w (by omega) (by omega) h1 (by omega)
  · simp only [if_neg h1]
    by_cases h2 : top < -1075
    · simp only [if_pos h2]; exact mag_under b e top up near w (by omega) (by omega) h2 (by omega)
    · simp only [if_neg h2]
      obtain ⟨L, hL⟩ : ∃ L, lastV top = L := ⟨_, rfl⟩
      have hl0 : -1074 ≤ L := by rw [← hL]; unfold lastV; split <;> omega
      have hl1 : top - L ≤ 53 := by rw [← hL]; unfold lastV; split <;> omega
      have hl2 : L = -1074 ∨ L = top - 53 := by rw [← hL]; unfold lastV; split <;> omega
      rw [hL]
      by_cases h3 : L ≤ e
      · simp only [if_pos h3]
        obtain ⟨K, hK⟩ : ∃ K : Nat, e - L = (K : Int) := ⟨(e - L).toNat, by omega⟩
        rw [hK, Int.toNat_natCast]
        have hbm := bl_mul_pow hn K
        have h53 : (2 : Nat) ^ 53 = 9007199254740992 := by decide
        have h52 : (2 : Nat) ^ 52 = 4503599627370496 := by decide
        have m1 : n * 2 ^ K < 2 ^ 53 := bl_le.1 (by omega)
        refine mag_left b n e top up near w hx hs K L (n * 2 ^ K) (by omega) (by omega) (by omega) (by omega) hL (by omega) rfl (by omega) ?_
        rcases hl2 with h | h
        · exact .inr h
        · left
          have hne : n * 2 ^ K ≠ 0 := by have := Nat.mul_pos (Nat.pos_of_ne_zero hn) (Nat.pow_pos (n := K) (show 0 < 2 by omega)); omega
          have h5 := le_bl hne
          rw [hbm, show bl n + K - 1 = 52 by omega] at h5
          omega
      · simp only [if_neg h3]
        obtain ⟨K, hK⟩ : ∃ K : Nat, L - e = (K : Int) + 1 := ⟨(L - e - 1).toNat, by omega⟩
        rw [hK, show ((K : Int) + 1).toNat = K + 1 by omega]
        have h53 : (2 : Nat) ^ 53 = 9007199254740992 := by decide
        have h52 : (2 : Nat) ^ 52 = 4503599627370496 := by decide
        have hq : n / 2 ^ (K + 1) < 2 ^ 53 := by
          refine Nat.div_lt_of_lt_mul ?_
          rw [← Nat.pow_add]
          exact bl_le.1 (by omega)
        refine mag_cut b n e top up near w hx hs K L _ _ _ _ _ _ (incV n (K + 1) up near) (by omega) (by omega) (by omega) (by omega) hL hK rfl rfl rfl rfl rfl rfl rfl ?_ (by split <;> omega) ?_
        · exact short_bl (k := K + 1) (bl_le.2 (Nat.pow_lt_pow_right (by omega) (by omega))) (by omega)
        · rcases hl2 with h | h
          · exact .inr h
          · left
            have h5 := le_bl hn
            have h6 : 2 ^ 52 ≤ n / 2 ^ (K + 1) := by
              rw [Nat.le_div_iff_mul_le (Nat.pow_pos (by omega)), ← Nat.pow_add]
              exact Nat.le_trans (Nat.pow_le_pow_right (by omega) (by omega)) h5
            omega
end Go.Proofs.YthmeocigliephaaGreatDoor.Big
end
section
namespace Go.Proofs.YthmeocigliephaaGreatDoor.Plain
open Go.RowKit
def signV (neg : Bool) (f : Nat) : Nat := if neg = true then f + 9223372036854775808 else f
def roundV (neg : Bool) (n : Nat) (e mode : Int) : Nat :=
  if neg = true then magV n e (mode == 1) (mode == 2) + 9223372036854775808 else magV n e (mode == 3) (mode == 2)
def roundN (neg : Bool) (l : List Int) (e mode : Int) : Nat × Int :=
  if 1 ≤ mode ∧ mode ≤ 3 then (if l.length = 0 then (0, 0) else (roundV neg (val l) e mode, 0)) else (0, 1)
theorem copysign_neg (f : Nat) (h : f < 9223372036854775808) : PNl.math_Copysign.f f 13830554455654793216 = some (f + 9223372036854775808) := by
  unfold PNl.math_Copysign.f
  rw [bits_abs f (by omega), Nat.mod_eq_of_lt h, show bits .and .u64 ((13830554455654793216 : Nat) : Int) 9223372036854775808 = ((2 ^ 63 * 1 : Nat) : Int) by decide, bits_or_u64_nat _ _ (by omega) (by omega), Nat.or_comm, or_add (by omega), Int.toNat_natCast]
  congr 1
  omega
theorem tailV_le (m : Nat) (L : Int) (h1 : m ≤ 9007199254740992) (h2 : -1074 ≤ L) (h3 : 4503599627370496 ≤ m ∨ L = -1074) : tailV m L ≤ infB := by
  unfold tailV
  have h53 : (2 : Nat) ^ 53 = 9007199254740992 := by decide
  have h52 : (2 : Nat) ^ 52 = 4503599627370496 := by decide
  split
  · next hb =>
    have hm : m = 9007199254740992 := by
      have : ¬ m < 2 ^ 53 := fun h => by have := bl_le.2 h; omega
      omega
    subst hm
    have hb2 : bl (9007199254740992 / 2) = 53 := by decide
    rw [hb2]
    split
    · exact Nat.le_refl _
    · unfold bitsOf infB; omega
  · next hb =>
    have hm : m < 2 ^ 53 := bl_le.1 (by omega)
    split
    · exact Nat.le_refl _
    · next ho =>
      unfold bitsOf infB
      rcases h3 with h | h
      · have : bl m = 53 := bl_unique (k := 52) (by omega) (by omega)
        rw [this] at ho
        omega
      · subst h; simp; omega
theorem magV_le (n : Nat) (e : Int) (up near : Bool) (hn : n ≠ 0) : magV n e up near ≤ infB := by
  unfold magV
  obtain ⟨top, ht⟩ : ∃ top, (bl n : Int) + e = top := ⟨_, rfl⟩
  rw [ht]
  have h53 : (2 : Nat) ^ 53 = 9007199254740992 := by decide
  have h52 : (2 : Nat) ^ 52 = 4503599627370496 := by decide
  by_cases h1 : 1024 < top
  · rw [if_pos h1]; unfold infB; split <;> omega
  · rw [if_neg h1]
    by_cases h2 : top < -1075
    · rw [if_pos h2]; unfold infB; split <;> omega
    · rw [if_neg h2]
      obtain ⟨L, hL⟩ : ∃ L, lastV top = L := ⟨_, rfl⟩
      have hl0 : -1074 ≤ L := by rw [← hL]; unfold lastV; split <;> omega
      have hl1 : top - L ≤ 53 := by rw [← hL]; unfold lastV; split <;> omega
      have hl2 : L = -1074 ∨ L = top - 53 := by rw [← hL]; unfold lastV; split <;> omega
      rw [hL]
      by_cases h3 : L ≤ e
      · rw [if_pos h3]
        obtain ⟨K, hK⟩ : ∃ K : Nat, e - L = (K : Int) := ⟨(e - L).toNat, by omega⟩
        rw [hK, Int.toNat_natCast]
        have hbm := bl_mul_pow hn K
        have m1 : n * 2 ^ K < 2 ^ 53 := bl_le.1 (by omega)
        refine tailV_le _ _ (by omega) hl0 ?_
        rcases hl2 with h | h
        · exact .inr h
        · left
          have hne : n * 2 ^ K ≠ 0 := by have := Nat.mul_pos (Nat.pos_of_ne_zero hn) (Nat.pow_pos (n := K) (show 0 < 2 by omega)); omega
          have h5 := le_bl hne
          rw [hbm, show bl n + K - 1 = 52 by omega] at h5
          omega
      · rw [if_neg h3]
        obtain ⟨K, hK⟩ : ∃ K : Nat, L - e = (K : Int) + 1 := ⟨(L - e - 1).toNat, by omega⟩
        rw [hK, show ((K : Int) + 1).toNat = K + 1 by omega]
        have hq : n / 2 ^ (K + 1) < 2 ^ 53 := by
          refine Nat.div_lt_of_lt_mul ?_
          rw [← Nat.pow_add]
          exact bl_le.1 (by omega)
        refine tailV_le _ _ (by split <;> omega) hl0 ?_
        rcases hl2 with h | h
        · exact .inr h
        · left
          have h5 := le_bl hn
          have h6 : 2 ^ 52 ≤ n / 2 ^ (K + 1) := by
            rw [Nat.le_div_iff_mul_le (Nat.pow_pos (by omega)), ← Nat.pow_add]
            exact Nat.le_trans (Nat.pow_le_pow_right (by omega) (by omega)) h5
          omega
end Go.Proofs.YthmeocigliephaaGreatDoor.Plain
namespace Go.Proofs.YthmeocigliephaaGreatDoor.Big
open Go.Proofs.YthmeocigliephaaGreatDoor.PNa Go.Proofs.YthmeocigliephaaGreatDoor.Plain
attribute [local go_sem] f64bits_run f64from_run max2_int min2_int max_two min_two
section
variable (b n : Nat) (e mode : Int) (w : World)
  (hx : IntV w b n) (hs : Short n)
include hx hs
theorem float_any (neg : Bool) (hn : n ≠ 0) (he0 : -100000 ≤ e) (he1 : e ≤ 100000) (hb : bl n ≤ 100000) :
    Calls Tryz.prog 94 #[.bool neg, .pointer (some ⟨b, 0, none⟩), .int .i64 e, .bool false, .int .i64 mode] w
      (fun rr w' => rr = .returned (.float .f64 (roundV neg n e mode)) ∧ Below w.heap.size w w') := by
  have HX := asd hx
  have HS := asd hs
  have HN := asd hn
  have HMAG := asd (fun up near (w : World) (hx : IntV w b n) => magnitude_any b n e up near w hx hs hn he0 he1 hb)
  obtain ⟨B1, hB1⟩ : ∃ B1, bl n = B1 := ⟨_, rfl⟩
  have HB1 := asd hB1
  rw [hB1] at hb HMAG
  have hp1 : (0 : Int) ≤ (B1 : Int) := by omega
  have hp2 : (B1 : Int) ≤ 100000 := by omega
  have HLT := asd (fun up near => show magV n e up near < 9223372036854775808 from Nat.lt_of_le_of_lt (magV_le n e up near hn) (by decide))
  clear hx hs hn hB1 hb
  unfold roundV
  cases neg
  · go_enter Tryz.func94, Tryz.ntmps94
    go_wp2_with (first
      | (go_at_call 126; refine (bitLen_any' _ n B1 _ HX.out HS.out HB1.out).mono ?_; rintro e1 wf ⟨rfl, df⟩; have IF := asd (HX.out.below df.below); have BF := asd df.below; clear df)
      | (go_at_call 127; refine (HMAG.out (mode == 3) (mode == 2) _ IF.out).mono ?_; rintro e1 wg ⟨rfl, dg⟩; have BG := asd (below_post dg BF.out); clear dg))
    go_ret
    exact ⟨rfl, BG.out⟩
  · go_enter Tryz.func94, Tryz.ntmps94
    go_wp2_with (first
      | (go_at_call 126; refine (bitLen_any' _ n B1 _ HX.out HS.out HB1.out).mono ?_; rintro e1 wf ⟨rfl, df⟩; have IF := asd (HX.out.below df.below); have BF := asd df.below; clear df)
      | (go_at_call 127; refine (HMAG.out (mode == 1) (mode == 2) _ IF.out).mono ?_; rintro e1 wg ⟨rfl, dg⟩; have BG := asd (below_post dg BF.out); clear dg)
      | (go_at_call 55; refine (PNl.math_Copysign.calls _ _ _ _ (copysign_neg _ (HLT.out _ _))).mono ?_; rintro e1 wh ⟨rfl, dh⟩; have BH := asd (below_post dh.below BG.out); clear dh))
    go_ret
    exact ⟨rfl, BH.out⟩
end
theorem val_ne {n : Bool} {l : List Int} {e : Int} (h : IsN n l e) (hl : l.length ≠ 0) : val l ≠ 0 := by
  have h1 := h.1
  unfold dyad_Valid.f at h1
  rw [if_neg (by omega)] at h1
  split at h1 <;> try (first | cases h1 | skip)
  split at h1 <;> try (first | cases h1 | skip)
  split at h1 <;> try (first | cases h1 | skip)
  split at h1 <;> try (first | cases h1 | skip)
  split at h1 <;> try (first | cases h1 | skip)
  split at h1 <;> try (first | cases h1 | skip)
  rename_i hb
  intro hv
  cases l with
  | nil => exact hl rfl
  | cons d l =>
    rw [val_cons] at hv
    have hd := h.2 d (by simp)
    have : d = 0 := by omega
    subst this
    have hr : rd (0 :: l) 0 = 0 := rfl
    rw [hr] at hb
    revert hb
    decide
theorem known_yes {m : Int} (h : 1 ≤ m ∧ m ≤ 3) : dyad_known.f m = some true := by
  unfold dyad_known.f; rw [if_pos h.1, decide_eq_true h.2]
theorem known_no {m : Int} (h : ¬ (1 ≤ m ∧ m ≤ 3)) : dyad_known.f m = some false := by
  unfold dyad_known.f; split
  · rw [decide_eq_false (by omega)]
  · rfl
def RetF (r : Nat × Int) (w : World) (e : Ending) (w' : World) : Prop := e = .returned (.tuple #[.float .f64 r.1, .int .i64 r.2]) ∧ Below w.heap.size w w'
section
variable (na : Bool) (la : List Int) (ea mode : Int) (A : Option Addr) (c : Nat) (w : World) (hda : DigS w la A c) (ha : IsN na la ea)
include hda ha
theorem round_num : Calls Tryz.prog 47 #[.agg #[.bool na, .slice A la.length c, .int .i64 ea], .int .i64 mode] w (RetF (roundN na la ea mode) w) := by
  obtain ⟨a1, a2, a3⟩ := ha.facts
  have D := asd hda
  have V := asd ha
  have HB := asd ((Below.refl w.heap.size w).alloc (Nat.le_refl _) (.cells #[.bool na, .slice A la.length c, .int .i64 ea] 60 (0, 0)))
  have N1 := asd (show NumB (w.alloc (.cells #[.bool na, .slice A la.length c, .int .i64 ea] 60 (0, 0))) w.heap.size na (.slice A la.length c) ea from blk_new _ _)
  have n0 := N1.out.c0
  have n1 := N1.out.c1
  have n2 := N1.out.c2
  by_cases hm : 1 ≤ mode ∧ mode ≤ 3
  · have KN := asd (known_yes hm)
    by_cases hl : la.length = 0
    · have hT : roundN na la ea mode = (0, 0) := by unfold roundN; rw [if_pos hm, if_pos hl]
      rw [hT]
      have hl' : ((la.length : Int) == 0) = true := by simp; exact List.length_eq_zero_iff.1 hl
      clear hda ha hm hl hT
      go_enter Tryz.func47, Tryz.ntmps47
      go_wp2_with (first
        | (go_at_call 91; refine (dyad_Valid.calls na A c la ea true _ (Kd.C_below D.out.rd HB.out) D.out.cap V.out.1).mono ?_; rintro e w2 ⟨rfl, b2⟩; have B2 := asd (below_post b2 HB.out); have N2 := asd (N1.out.below b2); have q0 := N2.out.c0; have q1 := N2.out.c1; have q2 := N2.out.c2; clear b2)
        | (go_at_call 92; refine (dyad_known.calls mode true _ KN.out).mono ?_; rintro e w3 ⟨rfl, b3⟩; have B3 := asd (below_post b3.below B2.out); have N3 := asd (N2.out.below b3.below); have q0 := N3.out.c0; have q1 := N3.out.c1; have q2 := N3.out.c2; clear b3))
      go_ret2
      exact ⟨rfl, B3.out⟩
    · obtain ⟨RV, hRV⟩ : ∃ r, roundV na (val la) ea mode = r := ⟨_, rfl⟩
      have hT : roundN na la ea mode = (RV, 0) := by unfold roundN; rw [if_pos hm, if_neg hl, hRV]
      rw [hT]
      have hl' : ((la.length : Int) == 0) = false := by simp; intro h; exact hl (by rw [h]; rfl)
      have HV0 := asd (val_ne ha hl)
      have HSH := asd (val_words_short ha)
      have HBL := asd (bl_words ha.2 a1)
      have HLL := asd (show la.length < 17592186044415 by omega)
      have HRV := asd hRV
      have HNA := asd (zv_natAbs na la)
      have e0 := asd (show (-100000 : Int) ≤ ea by omega)
      have e1 := asd (show ea ≤ (100000 : Int) by omega)
      clear hda ha hm hl hT hRV
      go_enter Tryz.func47, Tryz.ntmps47
      go_upto_region 6 with (first
        | (go_at_call 91; refine (dyad_Valid.calls na A c la ea true _ (Kd.C_below D.out.rd HB.out) D.out.cap V.out.1).mono ?_; rintro e w2 ⟨rfl, b2⟩; have B2 := asd (below_post b2 HB.out); have N2 := asd (N1.out.below b2); have q0 := N2.out.c0; have q1 := N2.out.c1; have q2 := N2.out.c2; clear b2)
        | (go_at_call 92; refine (dyad_known.calls mode true _ KN.out).mono ?_; rintro e w3 ⟨rfl, b3⟩; have B3 := asd (below_post b3.below B2.out); have N3 := asd (N2.out.below b3.below); clear q0 q1 q2; have q0 := N3.out.c0; have q1 := N3.out.c1; have q2 := N3.out.c2; clear b3)
        | (go_at_call 93; refine (value_any na la ea A c _ ⟨D.out.cap, Kd.C_below D.out.rd B3.out⟩ V.out.2 HLL.out).mono ?_; rintro e1 w4 ⟨b, rfl, i4, b4, n4⟩; have N4 := asd (N3.out.below b4); have B4 := asd (below_post b4 B3.out); have I4 := asd i4; have G4 := asd (show w.heap.size < b from Nat.lt_of_lt_of_le (blk_lt N3.out) n4); clear q0 q1 q2; have q0 := N4.out.c0; have q1 := N4.out.c1; have q2 := N4.out.c2; clear i4 b4 n4))
      go_region_held3 (fun w' => w'.cell? ⟨w.heap.size, 0, none⟩ = some (.bool na) ∧ w'.cell? ⟨w.heap.size, 1, none⟩ = some (.slice A la.length c) ∧ w'.cell? ⟨w.heap.size, 2, none⟩ = some (.int .i64 ea))
        (first | exact ⟨q0, q1, q2⟩ | exact S5.out | exact S6.out | go_keep)
        ((first
          | (go_at_call 95; refine (abs_any b b (zv na la) _ (IntV.z (I4.out.below (by exact (Below.refl _ _).drew))) (I4.out.below (by exact (Below.refl _ _).drew))).mono ?_; rw [HNA.out]; rintro e1 w5 ⟨rfl, o5, i5⟩; have S5 := asd (show w5.cell? ⟨w.heap.size, 0, none⟩ = some (.bool na) ∧ w5.cell? ⟨w.heap.size, 1, none⟩ = some (.slice A la.length c) ∧ w5.cell? ⟨w.heap.size, 2, none⟩ = some (.int .i64 ea) from ⟨(only_cell o5 (by have := G4.out; omega) (by have := G4.out; have := I4.out.lt; simp; omega) 0).trans q0, (only_cell o5 (by have := G4.out; omega) (by have := G4.out; have := I4.out.lt; simp; omega) 1).trans q1, (only_cell o5 (by have := G4.out; omega) (by have := G4.out; have := I4.out.lt; simp; omega) 2).trans q2⟩); have B5 := asd (below_only (by exact B4.out.drew) o5 (by exact B4.out.size) (by have := G4.out; omega)); have I5 := asd i5; have lt5 := asd (show w.heap.size < w5.heap.size from Nat.lt_trans G4.out i5.lt); clear o5 i5)
          | (go_at_call 94; refine (float_any b (val la) ea mode _ I5.out HSH.out na HV0.out e0.out e1.out (by have := HBL.out; omega)).mono ?_; rw [HRV.out]; rintro e1 w6 ⟨rfl, b6⟩; have B6 := asd (below_post b6 B5.out); have S6 := asd (show w6.cell? ⟨w.heap.size, 0, none⟩ = some (.bool na) ∧ w6.cell? ⟨w.heap.size, 1, none⟩ = some (.slice A la.length c) ∧ w6.cell? ⟨w.heap.size, 2, none⟩ = some (.int .i64 ea) from ⟨(b6.cell (p := ⟨w.heap.size, 0, none⟩) lt5.out).trans S5.out.1, (b6.cell (p := ⟨w.heap.size, 1, none⟩) lt5.out).trans S5.out.2.1, (b6.cell (p := ⟨w.heap.size, 2, none⟩) lt5.out).trans S5.out.2.2⟩); clear b6)))
      all_goals
        go_wp2
        go_ret2
        exact ⟨rfl, B6.out⟩
  · have KN := asd (known_no hm)
    have hT : roundN na la ea mode = (0, 1) := by unfold roundN; rw [if_neg hm]
    rw [hT]
    clear hda ha hm hT
    go_enter Tryz.func47, Tryz.ntmps47
    go_wp2_with (first
      | (go_at_call 91; refine (dyad_Valid.calls na A c la ea true _ (Kd.C_below D.out.rd HB.out) D.out.cap V.out.1).mono ?_; rintro e w2 ⟨rfl, b2⟩; have B2 := asd (below_post b2 HB.out); have N2 := asd (N1.out.below b2); have q0 := N2.out.c0; have q1 := N2.out.c1; have q2 := N2.out.c2; clear b2)
      | (go_at_call 92; refine (dyad_known.calls mode false _ KN.out).mono ?_; rintro e w3 ⟨rfl, b3⟩; have B3 := asd (below_post b3.below B2.out); have N3 := asd (N2.out.below b3.below); clear b3))
    go_ret2
    exact ⟨rfl, B3.out⟩
end
end Go.Proofs.YthmeocigliephaaGreatDoor.Big
end
section
namespace Go.Proofs.YthmeocigliephaaGreatDoor
open Go.Proofs.YthmeocigliephaaGreatDoor.Plain Go.Proofs.YthmeocigliephaaGreatDoor.Big
theorem neg_float (k : FloatKind) (b : Nat) : Op.unary .neg (.float k b) = pure (.float k (Op.negFloat k b)) := rfl
def dyad_Of.f (a0 : Nat) : Option (Bool × List Int × Int × Int) := if Fin64 a0 then some (mkN (floV a0) (expoV a0)) else none
theorem dyad_Of.calls (a0 : Nat) (r1 : Bool) (r2 : List Int) (r3 : Int) (r4 : Int) (w : World) (h : dyad_Of.f a0 = some (r1, r2, r3, r4)) (hL : Laid w := by exact Go.Proofs.YthmeocigliephaaGreatDoor.Big.Laid.step HL.out hbw) :
    Calls Tryz.prog 90 #[.float .f64 a0] w fun e w' => ∃ v1_ : Value, e = .returned (.tuple #[.agg #[.bool r1, v1_, .int .i64 r3], .int .i64 r4]) ∧ Kd.R (Kd.int .u32) 83 w' w.heap.size (fun _ => True) v1_ r2 ∧ Below w.heap.size w w' := by
  unfold dyad_Of.f at h
  split at h
  · rename_i hf
    have := of_num a0 w hf hL
    rw [Option.some.inj h] at this
    exact this
  · cases h
def dyad_Add.f (a0_0 : Bool) (l0_1 : List Int) (a0_2 : Int) (a1_0 : Bool) (l1_1 : List Int) (a1_2 : Int) : Option (Bool × List Int × Int × Int) :=
  if IsN a0_0 l0_1 a0_2 ∧ IsN a1_0 l1_1 a1_2 then some (addV a0_0 l0_1 a0_2 a1_0 l1_1 a1_2) else none
theorem dyad_Add.calls (a0_0 : Bool) (A0_1 : Option Addr) (c0_1 : Nat) (l0_1 : List Int) (a0_2 : Int) (a1_0 : Bool) (A1_1 : Option Addr) (c1_1 : Nat) (l1_1 : List Int) (a1_2 : Int) (r1 : Bool) (r2 : List Int) (r3 : Int) (r4 : Int) (w : World)
    (hr0_1 : Kd.C (Kd.int .u32) w A0_1 l0_1.length l0_1) (hc0_1 : l0_1.length ≤ c0_1) (hr1_1 : Kd.C (Kd.int .u32) w A1_1 l1_1.length l1_1) (hc1_1 : l1_1.length ≤ c1_1)
    (h : dyad_Add.f a0_0 l0_1 a0_2 a1_0 l1_1 a1_2 = some (r1, r2, r3, r4)) (hL : Laid w := by exact Go.Proofs.YthmeocigliephaaGreatDoor.Big.Laid.step HL.out hbw) :
    Calls Tryz.prog 79 #[.agg #[.bool a0_0, .slice A0_1 l0_1.length c0_1, .int .i64 a0_2], .agg #[.bool a1_0, .slice A1_1 l1_1.length c1_1, .int .i64 a1_2]] w fun e w' => ∃ v1_ : Value, e = .returned (.tuple #[.agg #[.bool r1, v1_, .int .i64 r3], .int .i64 r4]) ∧ Kd.R (Kd.int .u32) 83 w' w.heap.size (fun _ => True) v1_ r2 ∧ Below w.heap.size w w' := by
  unfold dyad_Add.f at h
  split at h
  · rename_i hf
    have := add_num a0_0 l0_1 a0_2 A0_1 c0_1 a1_0 l1_1 a1_2 A1_1 c1_1 w ⟨hc0_1, hr0_1⟩ hf.1 ⟨hc1_1, hr1_1⟩ hf.2 hL
    rw [Option.some.inj h] at this
    exact this
  · cases h
def dyad_Mul.f (a0_0 : Bool) (l0_1 : List Int) (a0_2 : Int) (a1_0 : Bool) (l1_1 : List Int) (a1_2 : Int) : Option (Bool × List Int × Int × Int) :=
  if IsN a0_0 l0_1 a0_2 ∧ IsN a1_0 l1_1 a1_2 then some (mkN (zv a0_0 l0_1 * zv a1_0 l1_1) (a0_2 + a1_2)) else none
def dyad_Round.f (a0_0 : Bool) (l0_1 : List Int) (a0_2 : Int) (a1 : Int) : Option (Nat × Int) := if IsN a0_0 l0_1 a0_2 then some (roundN a0_0 l0_1 a0_2 a1) else none
theorem dyad_Round.calls (a0_0 : Bool) (A0_1 : Option Addr) (c0_1 : Nat) (l0_1 : List Int) (a0_2 : Int) (a1 : Int) (r1 : Nat) (r2 : Int) (w : World)
    (hr0_1 : Kd.C (Kd.int .u32) w A0_1 l0_1.length l0_1) (hc0_1 : l0_1.length ≤ c0_1) (h : dyad_Round.f a0_0 l0_1 a0_2 a1 = some (r1, r2)) :
    Calls Tryz.prog 47 #[.agg #[.bool a0_0, .slice A0_1 l0_1.length c0_1, .int .i64 a0_2], .int .i64 a1] w fun e w' => e = .returned (.tuple #[.float .f64 r1, .int .i64 r2]) ∧ Below w.heap.size w w' := by
  unfold dyad_Round.f at h
  split at h
  · rename_i hf
    have := round_num a0_0 l0_1 a0_2 a1 A0_1 c0_1 w ⟨hc0_1, hr0_1⟩ hf
    rw [Option.some.inj h] at this
    exact this
  · cases h
end Go.Proofs.YthmeocigliephaaGreatDoor
end
section
namespace Go.Proofs.YthmeocigliephaaGreatDoor.PSu
attribute [local go_sem] f64bits_run f64from_run run_float_some max2_int min2_int max_two min_two max_three min_three max_four min_four
def round_num.f (a0 : Nat) : Option (Bool × List Int × Int) := (dyad_Of.f a0).bind fun bt116 => (some (bt116.1, bt116.2.1, bt116.2.2.1))
theorem round_num.calls (a0 : Nat) (r1 : Bool) (r2 : List Int) (r3 : Int) (w : World) (h : round_num.f a0 = some (r1, r2, r3)) (hL : Big.Laid w := by exact Big.Laid.step HL.out hbw) :
  Calls Tryz.prog 115 #[.float .f64 a0] w fun e w' => ∃ v1_ : Value, e = .returned (.agg #[.bool r1, v1_, .int .i64 r3]) ∧ Kd.R (Kd.int .u32) 83 w' w.heap.size (fun _ => True) v1_ r2 ∧ Below w.heap.size w w' := by
 have HL := asd hL
 clear hL
 have hu60 := Tryz.underlying60
 have HB := asd (Below.refl w.heap.size w)
 have H := h
 clear h
 unfold round_num.f at H
 replace H := Option.bind_eq_some_iff.mp H
 obtain ⟨⟨t116, t117, t120, t121⟩, A20, H⟩ := H
 replace H : (some (t116, t117, t120)) = some (r1, r2, r3) := H
 have A2 := asd A20
 clear A20
 simp only [Option.some.injEq, Prod.mk.injEq] at H
 obtain ⟨rfl, rfl, rfl⟩ := H
 go_enter Tryz.func115, Tryz.ntmps115
 go_wp2_with (first | ((with_reducible refine gate_dst (N := 2) rfl ?_); refine box_ev (w := w) ?hg (N := 2) ?hd hbw (cs := #[.bool false, .slice none 0 0, .int .i64 0]) (t := 60) ?hr ?_; (case hd => rfl); (case hg => rfl); (case hr => first | (go_simp; done) | (go_simp; rfl)); clear HB; intro gb115 w3 HB BK115 GW115; have GE115 := GW115) | ((with_reducible refine gate_callee (f := 90) rfl ?_); refine goesL_ (some 7) rfl rfl Tryz.func90 (by kernel_rfl) rfl #[.float .f64 a0] rfl eqA ?_; (with_reducible refine (dyad_Of.calls a0 t116 t117 t120 t121 _ A2.out).mono ?_); rintro e w4 ⟨v118, rfl, ho0, hb⟩; refine ⟨_, rfl, ?_⟩; have n0_ := asd (Kd.R_lower ho0 (below_size hbs)); have n1_ := asd (blk_below (g := gb115) (o := .cells #[.bool false, .slice none 0 0, .int .i64 0] 60 (0, 0)) (blkU BK115.out) hb); have n2_ := asd (below_step hbs hb); clear BK115; clear HB; have HO119 := n0_; have BK115 := n1_; have HB := n2_; clear n0_ n1_ n2_; (try clear hb); (try clear ho0)) | ((with_reducible refine gate_dst (N := 3) rfl ?_); refine box_event ?hg (N := 3) ?hd (cs := #[.bool false, .slice none 0 0, .int .i64 0]) (t := 60) ?hr ?_; (case hd => rfl); (case hg => rfl); (case hr => first | (go_simp; done) | (go_simp; rfl)); intro gb122 hg w5 hbox hb; have n0_ := asd (Kd.R_below (rUp HO119.out) hb); have n1_ := asd (blk_below (g := gb115) (o := .cells #[.bool false, .slice none 0 0, .int .i64 0] 60 (0, 0)) (blkU BK115.out) hb); have n2_ := asd (below_step hbs hb); have n3_ := asd (hbox); have n4_ := asd ((by rw [hg]; exact (below_size hbs) : w.heap.size ≤ gb122)); have n5_ := asd ((by rw [hg]; exact (below_size hbs) : w.heap.size ≤ gb122)); have n6_ := asd ((by rw [hg]; exact Nat.ne_of_lt (blk_lt (g := gb115) (o := .cells #[.bool false, .slice none 0 0, .int .i64 0] 60 (0, 0)) (blkU BK115.out)) : gb115 ≠ gb122)); have n7_ := asd ((by rw [hg]; exact Nat.ne_of_gt (blk_lt (g := gb115) (o := .cells #[.bool false, .slice none 0 0, .int .i64 0] 60 (0, 0)) (blkU BK115.out)) : gb122 ≠ gb115)); clear HO119; clear BK115; clear HB; have HO119 := n0_; have BK115 := n1_; have HB := n2_; have BK122 := n3_; have GW122 := n4_; have GE122 := n5_; have NB115_122 := n6_; have NB122_115 := n7_; clear n0_ n1_ n2_ n3_ n4_ n5_ n6_ n7_; clear hb hbox hg; have hnb6 := NB122_115.out; have hnc6 := NB115_122.out; obtain ⟨hcz7_0, hcz7_1, hcz7_2, hfz7_0, hfz7_1, hfz7_2⟩ := cz3 BK122.out; obtain ⟨Ao8, co8, eo8⟩ := Kd.R_slice HO119.out; subst eo8; obtain ⟨hcz9_0, hcz9_1, hcz9_2, hfz9_0, hfz9_1, hfz9_2⟩ := cz3 BK115.out))
 refine bodyPost_ret (results_cell_row rfl _ _ gb115 60 #[.bool t116, .slice Ao8 t117.length co8, .int .i64 t120] (0, 0) _ rfl (by (with_reducible repeat (first | refine blk_drewN ?_ _ | refine blk_drew ?_ | refine blk_alloc ?_ _)); refine blk_put (cs := #[.bool t116, .slice Ao8 t117.length co8, .int .i64 0]) ?_ 2 _ rfl; (with_reducible repeat (first | refine blk_drewN ?_ _ | refine blk_drew ?_ | refine blk_alloc ?_ _)); refine blk_put (cs := #[.bool t116, .slice none 0 0, .int .i64 0]) ?_ 1 _ rfl; (with_reducible repeat (first | refine blk_drewN ?_ _ | refine blk_drew ?_ | refine blk_alloc ?_ _)); refine blk_put (cs := #[.bool false, .slice none 0 0, .int .i64 0]) ?_ 0 _ rfl; (with_reducible repeat (first | refine blk_drewN ?_ _ | refine blk_drew ?_ | refine blk_alloc ?_ _)); refine blk_far ?_ NB115_122.out _; (with_reducible repeat (first | refine blk_drewN ?_ _ | refine blk_drew ?_ | refine blk_alloc ?_ _)); refine blk_far ?_ NB115_122.out _; (with_reducible repeat (first | refine blk_drewN ?_ _ | refine blk_drew ?_ | refine blk_alloc ?_ _)); refine blk_far ?_ NB115_122.out _; (with_reducible repeat (first | refine blk_drewN ?_ _ | refine blk_drew ?_ | refine blk_alloc ?_ _)); exact BK115.out) Tryz.underlying60 rfl (by kernel_rfl)) rfl ?_
 exact ⟨_, eqC, by (with_reducible repeat (first | apply Kd.R_alloc | apply Kd.R_drewN | apply Kd.R_drew)); exact Kd.R_mono (Kd.R_far (p := ⟨gb115, 2, none⟩) (Kd.R_far (p := ⟨gb115, 1, none⟩) (Kd.R_far (p := ⟨gb115, 0, none⟩) (Kd.R_far (p := ⟨gb122, 2, none⟩) (Kd.R_far (p := ⟨gb122, 1, none⟩) (Kd.R_far (p := ⟨gb122, 0, none⟩) (Kd.R_types (Kd.R_types HO119.out BK122.out (by decide)) BK115.out (by decide)) (fun _ hk => hk.1.2) (.bool t116)) (fun _ hk => hk.1.2) (.slice Ao8 t117.length co8)) (fun _ hk => hk.1.2) (.int .i64 t120)) (fun _ hk => hk.2) (.bool t116)) (fun _ hk => hk.2) (.slice Ao8 t117.length co8)) (fun _ hk => hk.2) (.int .i64 t120)) (fun _ hk => trivial), hbs⟩
def math_Signbit.f (a0 : Nat) : Option (Bool) := some (decide ((wrap64 (((a0 : Nat) : Int))) < 0))
theorem math_Signbit.calls (a0 : Nat) (r : Bool) (w : World) (h : math_Signbit.f a0 = some r) :
  Calls Tryz.prog 54 #[.float .f64 a0] w fun e w' => e = .returned (.bool r) ∧ Drawn0 w w' := by
 have H := h
 clear h
 unfold math_Signbit.f at H
 obtain rfl := Option.some.inj H
 go_enter Tryz.func54, Tryz.ntmps54
 go_wp2
 go_ret
 exact ⟨eqB, dn0⟩
def math_Copysign.f (a0 : Nat) (a1 : Nat) : Option (Nat) := some ((Go.bits .or .u64 (Go.bits .andNot .u64 ((a0 : Nat) : Int) 9223372036854775808) (Go.bits .and .u64 ((a1 : Nat) : Int) 9223372036854775808) : Int).toNat)
theorem math_Copysign.calls (a0 : Nat) (a1 : Nat) (r : Nat) (w : World) (h : math_Copysign.f a0 a1 = some r) :
  Calls Tryz.prog 55 #[.float .f64 a0, .float .f64 a1] w fun e w' => e = .returned (.float .f64 r) ∧ Drawn0 w w' := by
 have H := h
 clear h
 unfold math_Copysign.f at H
 obtain rfl := Option.some.inj H
 go_enter Tryz.func55, Tryz.ntmps55
 go_wp2
 go_ret
 exact ⟨eqB, dn0⟩
def round_nought.j0 : Nat → Nat → Nat → Int → Bool → Option (Nat)
 | 0, _, _, _, _ => none
 | k + 1, x0, x1, x2, x7 => (math_Signbit.f x0).bind fun t123 => ((math_Signbit.f x1).bind fun t124 => (if x7 = true then (if t123 = true then (if t124 = true then ((math_Copysign.f (0 : Nat) (13830554455654793216 : Nat)).bind fun t125 => (some t125)) else (if x2 = 1 then ((math_Copysign.f (0 : Nat) (13830554455654793216 : Nat)).bind fun t126 => (some t126)) else (some (0 : Nat)))) else (if x2 = 1 then (if t124 = true then ((math_Copysign.f (0 : Nat) (13830554455654793216 : Nat)).bind fun t127 => (some t127)) else (some (0 : Nat))) else (some (0 : Nat)))) else (if x2 = 1 then ((math_Copysign.f (0 : Nat) (13830554455654793216 : Nat)).bind fun t128 => (some t128)) else (some (0 : Nat)))))
def round_nought.f (k : Nat) (a0 : Nat) (a1 : Nat) (a2 : Int) : Option (Nat) := if ((FloatKind.f64.format.order a0 (0 : Nat)) == some .eq) = true then (round_nought.j0 k a0 a1 a2 ((FloatKind.f64.format.order a1 (0 : Nat)) == some .eq)) else (round_nought.j0 k a0 a1 a2 false)
end Go.Proofs.YthmeocigliephaaGreatDoor.PSu
end
section
namespace Go.Proofs.YthmeocigliephaaGreatDoor.PSu
attribute [local go_sem] f64bits_run f64from_run run_float_some max2_int min2_int max_two min_two max_three min_three max_four min_four
def math_NaN.f  : Option (Nat) := some ((9221120237041090561 : Int).toNat)
theorem math_NaN.calls  (r : Nat) (w : World) (h : math_NaN.f  = some r) :
  Calls Tryz.prog 113 #[] w fun e w' => e = .returned (.float .f64 r) ∧ Drawn0 w w' := by
 have H := h
 clear h
 unfold math_NaN.f at H
 obtain rfl := Option.some.inj H
 go_enter Tryz.func113, Tryz.ntmps113
 go_wp2
 go_ret
 exact ⟨eqB, dn0⟩
def math_Abs.f (a0 : Nat) : Option (Nat) := some ((Go.bits .andNot .u64 ((a0 : Nat) : Int) 9223372036854775808 : Int).toNat)
theorem math_Abs.calls (a0 : Nat) (r : Nat) (w : World) (h : math_Abs.f a0 = some r) :
  Calls Tryz.prog 41 #[.float .f64 a0] w fun e w' => e = .returned (.float .f64 r) ∧ Drawn0 w w' := by
 have H := h
 clear h
 unfold math_Abs.f at H
 obtain rfl := Option.some.inj H
 go_enter Tryz.func41, Tryz.ntmps41
 go_wp2
 go_ret
 exact ⟨eqB, dn0⟩
def math_IsInf.f (a0 : Nat) (a1 : Int) : Option (Bool) := if a1 = 0 then ((math_Abs.f a0).bind fun t113 => (some ((FloatKind.f64.format.order t113 (9218868437227405311 : Nat)) == some .gt))) else (none)
theorem math_IsInf.calls (a0 : Nat) (a1 : Int) (r : Bool) (w : World) (h : math_IsInf.f a0 a1 = some r) :
  Calls Tryz.prog 43 #[.float .f64 a0, .int .i64 a1] w fun e w' => e = .returned (.bool r) ∧ Drawn0 w w' := by
 have H := h
 clear h
 unfold math_IsInf.f at H
 by_cases c3 : a1 = 0
 ·rw [if_pos c3] at H
  have c3b0 := beq_iff_eq.mpr c3
  have c3b1 := bne_eq_false_iff_eq.mpr c3
  clear c3
  replace H := Option.bind_eq_some_iff.mp H
  obtain ⟨t113, A40, H⟩ := H
  have A4 := asd A40
  clear A40
  obtain rfl := Option.some.inj H
  go_enter Tryz.func43, Tryz.ntmps43
  go_wp2_with (first | ((with_reducible refine gate_callee (f := 41) rfl ?_); refine goesL_ (some 8) rfl rfl Tryz.func41 (by kernel_rfl) rfl #[.float .f64 a0] rfl eqA ?_; (with_reducible refine (math_Abs.calls a0 t113 _ A4.out).mono ?_); rintro e w' ⟨rfl, ⟨nd, rfl⟩⟩; refine ⟨_, rfl, ?_⟩))
  go_ret
  exact ⟨eqB, dn0⟩
 ·rw [if_neg c3] at H
  exact absurd H (by simp)
def round_infinite.f (a0 : Nat) : Option (Bool) := (math_IsInf.f a0 0).bind fun t114 => (some t114)
theorem round_infinite.calls (a0 : Nat) (r : Bool) (w : World) (h : round_infinite.f a0 = some r) :
  Calls Tryz.prog 114 #[.float .f64 a0] w fun e w' => e = .returned (.bool r) ∧ Drawn0 w w' := by
 have H := h
 clear h
 unfold round_infinite.f at H
 replace H := Option.bind_eq_some_iff.mp H
 obtain ⟨t114, A20, H⟩ := H
 have A2 := asd A20
 clear A20
 obtain rfl := Option.some.inj H
 go_enter Tryz.func114, Tryz.ntmps114
 go_wp2_with (first | ((with_reducible refine gate_callee (f := 43) rfl ?_); refine goesL_ (some 4) rfl rfl Tryz.func43 (by kernel_rfl) rfl #[.float .f64 a0, .int .i64 0] rfl eqA ?_; (with_reducible refine (math_IsInf.calls a0 0 t114 _ A2.out).mono ?_); rintro e w' ⟨rfl, ⟨nd, rfl⟩⟩; refine ⟨_, rfl, ?_⟩))
 go_ret
 exact ⟨eqB, dn0⟩
end Go.Proofs.YthmeocigliephaaGreatDoor.PSu
end
section
namespace Go.Proofs.YthmeocigliephaaGreatDoor.Big
open Go.Proofs.YthmeocigliephaaGreatDoor.PSu Go.Proofs.YthmeocigliephaaGreatDoor.Plain
attribute [local go_sem] f64bits_run f64from_run
def nanB (b : Nat) : Bool := (FloatKind.f64.format.order b b) != some .eq
def infB? (b : Nat) : Bool := (math_IsInf.f b 0).getD false
def oneB (b : Nat) : Bool := ((FloatKind.f64.format.order b 0) != some .eq) || !((math_Signbit.f b).getD false)
def idxF (p : Nat → Bool) : List Nat → Int → Int
  | [], _ => -1
  | b :: l, i => if p b = true then i else idxF p l (i + 1)
theorem idxF_lt (p : Nat → Bool) : ∀ (l : List Nat) (i : Int), 0 ≤ i → (decide (idxF p l i ≥ 0) = l.any p)
  | [], i, _ => by simp [idxF]
  | b :: l, i, h => by
    unfold idxF
    rw [List.any_cons]
    split
    · next hb => rw [hb]; simpa using h
    · next hb =>
      have : p b = false := by simpa using hb
      rw [this, Bool.false_or]; exact idxF_lt p l (i + 1) (by omega)
theorem drop_rd (l : List Nat) (i : Nat) (h : i < l.length) : l.drop i = rdOf (0 : Nat) l (i : Int) :: l.drop (i + 1) := by
  rw [List.drop_eq_getElem_cons h]
  congr 1
  simp [rdOf, List.getD, h]
theorem inf_some (b : Nat) : math_IsInf.f b 0 = some (infB? b) := by
  unfold infB? math_IsInf.f
  rw [if_pos rfl]
  unfold math_Abs.f
  rfl
theorem fn_nan (b : Nat) (w : World) : Calls Tryz.prog 96 #[.float .f64 b] w fun e w' => e = .returned (.bool (nanB b)) ∧ Drawn0 w w' := by
  go_enter Tryz.func96, Tryz.ntmps96
  go_wp2
  go_ret
  exact ⟨rfl, ⟨0, rfl⟩⟩
theorem fn_inf (b : Nat) (w : World) : Calls Tryz.prog 97 #[.float .f64 b] w fun e w' => e = .returned (.bool (infB? b)) ∧ Drawn0 w w' := by
  go_enter Tryz.func97, Tryz.ntmps97
  go_wp2_with (go_at_call 43; refine (math_IsInf.calls b 0 _ _ (inf_some b)).mono ?_; rintro e w1 ⟨rfl, d⟩; have D := asd d; clear d)
  go_ret
  exact ⟨rfl, D.out⟩
theorem fn_one (b : Nat) (w : World) : Calls Tryz.prog 53 #[.float .f64 b] w fun e w' => e = .returned (.bool (oneB b)) ∧ Drawn0 w w' := by
  obtain ⟨t, ht⟩ : ∃ t, math_Signbit.f b = some t := ⟨_, rfl⟩
  have hb : oneB b = (((FloatKind.f64.format.order b 0) != some .eq) || !t) := by unfold oneB; rw [ht]; rfl
  rw [hb]
  have HT := asd ht
  clear ht hb
  have hcc : ((FloatKind.f64.format.order b 0) != some .eq) = true ∨ ((FloatKind.f64.format.order b 0) != some .eq) = false := by cases ((FloatKind.f64.format.order b 0) != some .eq) <;> simp
  rcases hcc with h | h
  · go_enter Tryz.func53, Tryz.ntmps53
    go_wp2
    go_ret
    exact ⟨by rw [h]; rfl, ⟨0, rfl⟩⟩
  · go_enter Tryz.func53, Tryz.ntmps53
    go_wp2_with (go_at_call 54; refine (math_Signbit.calls b t _ HT.out).mono ?_; rintro e w1 ⟨rfl, d⟩; have D := asd d; clear d)
    go_ret
    exact ⟨by rw [h]; rfl, D.out⟩
section
variable (A : Option Addr) (c : Nat) (l : List Nat) (w : World) (hr : Kd.C Kd.float w A l.length l) (hc : l.length ≤ c) (hn : l.length < 4611686018427387904)
include hr hc hn
theorem index_nan : Calls Tryz.prog 98 #[.slice A l.length c, .func (.func 96) #[] #[]] w fun e w' => e = .returned (.int .i64 (idxF nanB l 0)) ∧ Below w.heap.size w w' := by
  obtain ⟨R, hR⟩ : ∃ R, idxF nanB l 0 = R := ⟨_, rfl⟩
  rw [hR]
  have HR := asd hr
  have H' := asd (show idxF nanB (l.drop 0) ((0 : Nat) : Int) = R from hR)
  have hlen : (0 : Int) ≤ (l.length : Int) := by omega
  clear hr hc hR
  go_enter Tryz.func98, Tryz.ntmps98
  go_wp2
  go_loopg [5, 8] l.length (fun kq v5 v8 w' => ∃ i : Nat, v8 = .int .i64 (i : Int) ∧ Aside0 (kq + i = l.length) ∧ Aside0 (idxF nanB (l.drop i) (i : Int) = R) ∧ Aside0 (Below w.heap.size w w'))
  case atStart => exact ⟨0, rfl, ⟨by omega⟩, H', ⟨Below.refl _ _⟩⟩
  case round =>
    clear H'
    obtain ⟨i, rfl, HK, HA, HB⟩ := hrel
    have hi0 : (0 : Int) ≤ (i : Int) := by omega
    cases gk with
    | zero =>
      have hi : i = l.length := by have := HK.out; omega
      have c1 : decide ((i : Int) < (l.length : Int)) = false := by simp; omega
      have hR : R = -1 := by have := HA.out; rw [hi, List.drop_length] at this; exact this.symm
      subst hR
      have c2 : decide (i < l.length) = false := by simp; omega
      clear hi
      go_wp2
      go_ret
      exact ⟨rfl, HB.out⟩
    | succ k1 =>
      have hi : i < l.length := by have := HK.out; omega
      have c1 : decide ((i : Int) < (l.length : Int)) = true := by simp; omega
      have p1 : 0 ≤ (i : Int) := hi0
      have q1 : (i : Int) < (l.length : Int) := by omega
      obtain ⟨ad, rfl, hx⟩ := Kd.at_float HR.out (i : Int) p1 q1
      replace hx := (HB.out.cell (World.block_lt_of_cell? w _ hx)).trans hx
      rw [Int.toNat_natCast] at hx
      have hA := HA.out
      rw [drop_rd l i hi] at hA
      unfold idxF at hA
      replace p1 := eq_true p1
      replace q1 := eq_true q1
      have HI := asd hi
      clear HA hi
      by_cases hp : nanB (rdOf (0 : Nat) l (i : Int)) = true
      · rw [if_pos hp] at hA
        subst hA
        go_wp2_with (go_at_call 96; refine (fn_nan _ _).mono ?_; rw [hp]; rintro e w1 ⟨rfl, d⟩; have HB2 := asd (below_post d.below HB.out); clear d)
        go_ret
        exact ⟨rfl, HB2.out⟩
      · rw [if_neg hp] at hA
        have hp' : nanB (rdOf (0 : Nat) l (i : Int)) = false := by simpa using hp
        have HA := asd hA
        clear hA hp
        go_wp2_with (go_at_call 96; refine (fn_nan _ _).mono ?_; rw [hp']; rintro e w1 ⟨rfl, d⟩; have HB2 := asd (below_post d.below HB.out); clear d)
        go_roundg k1
        case measure => omega
        case rel => exact ⟨i + 1, by congr 1; have := HI.out; exact (w64_of (by omega) (by omega)).trans (by omega), ⟨by have := HK.out; omega⟩, HA, ⟨HB2.out⟩⟩
theorem contains_nan : Calls Tryz.prog 52 #[.slice A l.length c, .func (.func 96) #[] #[]] w fun e w' => e = .returned (.bool (l.any nanB)) ∧ Below w.heap.size w w' := by
  obtain ⟨R, hR⟩ : ∃ R, idxF nanB l 0 = R := ⟨_, rfl⟩
  have hb := idxF_lt nanB l 0 (by omega)
  rw [hR] at hb
  rw [← hb]
  have HI := asd (fun (w : World) (hr : Kd.C Kd.float w A l.length l) => index_nan A c l w hr hc hn)
  rw [hR] at HI
  have HR := asd hr
  clear hr hc hb hR
  go_enter Tryz.func52, Tryz.ntmps52
  go_wp2_with (go_at_call 98; refine (HI.out _ HR.out).mono ?_; rintro e w1 ⟨rfl, d⟩; have HB := asd d; clear d)
  go_ret
  exact ⟨rfl, HB.out⟩
theorem index_inf : Calls Tryz.prog 98 #[.slice A l.length c, .func (.func 97) #[] #[]] w fun e w' => e = .returned (.int .i64 (idxF infB? l 0)) ∧ Below w.heap.size w w' := by
  obtain ⟨R, hR⟩ : ∃ R, idxF infB? l 0 = R := ⟨_, rfl⟩
  rw [hR]
  have HR := asd hr
  have H' := asd (show idxF infB? (l.drop 0) ((0 : Nat) : Int) = R from hR)
  have hlen : (0 : Int) ≤ (l.length : Int) := by omega
  clear hr hc hR
  go_enter Tryz.func98, Tryz.ntmps98
  go_wp2
  go_loopg [5, 8] l.length (fun kq v5 v8 w' => ∃ i : Nat, v8 = .int .i64 (i : Int) ∧ Aside0 (kq + i = l.length) ∧ Aside0 (idxF infB? (l.drop i) (i : Int) = R) ∧ Aside0 (Below w.heap.size w w'))
  case atStart => exact ⟨0, rfl, ⟨by omega⟩, H', ⟨Below.refl _ _⟩⟩
  case round =>
    clear H'
    obtain ⟨i, rfl, HK, HA, HB⟩ := hrel
    have hi0 : (0 : Int) ≤ (i : Int) := by omega
    cases gk with
    | zero =>
      have hi : i = l.length := by have := HK.out; omega
      have c1 : decide ((i : Int) < (l.length : Int)) = false := by simp; omega
      have hR : R = -1 := by have := HA.out; rw [hi, List.drop_length] at this; exact this.symm
      subst hR
      have c2 : decide (i < l.length) = false := by simp; omega
      clear hi
      go_wp2
      go_ret
      exact ⟨rfl, HB.out⟩
    | succ k1 =>
      have hi : i < l.length := by have := HK.out; omega
      have c1 : decide ((i : Int) < (l.length : Int)) = true := by simp; omega
      have p1 : 0 ≤ (i : Int) := hi0
      have q1 : (i : Int) < (l.length : Int) := by omega
      obtain ⟨ad, rfl, hx⟩ := Kd.at_float HR.out (i : Int) p1 q1
      replace hx := (HB.out.cell (World.block_lt_of_cell? w _ hx)).trans hx
      rw [Int.toNat_natCast] at hx
      have hA := HA.out
      rw [drop_rd l i hi] at hA
      unfold idxF at hA
      replace p1 := eq_true p1
      replace q1 := eq_true q1
      have HI := asd hi
      clear HA hi
      by_cases hp : infB? (rdOf (0 : Nat) l (i : Int)) = true
      · rw [if_pos hp] at hA
        subst hA
        go_wp2_with (go_at_call 97; refine (fn_inf _ _).mono ?_; rw [hp]; rintro e w1 ⟨rfl, d⟩; have HB2 := asd (below_post d.below HB.out); clear d)
        go_ret
        exact ⟨rfl, HB2.out⟩
      · rw [if_neg hp] at hA
        have hp' : infB? (rdOf (0 : Nat) l (i : Int)) = false := by simpa using hp
        have HA := asd hA
        clear hA hp
        go_wp2_with (go_at_call 97; refine (fn_inf _ _).mono ?_; rw [hp']; rintro e w1 ⟨rfl, d⟩; have HB2 := asd (below_post d.below HB.out); clear d)
        go_roundg k1
        case measure => omega
        case rel => exact ⟨i + 1, by congr 1; have := HI.out; exact (w64_of (by omega) (by omega)).trans (by omega), ⟨by have := HK.out; omega⟩, HA, ⟨HB2.out⟩⟩
theorem contains_inf : Calls Tryz.prog 52 #[.slice A l.length c, .func (.func 97) #[] #[]] w fun e w' => e = .returned (.bool (l.any infB?)) ∧ Below w.heap.size w w' := by
  obtain ⟨R, hR⟩ : ∃ R, idxF infB? l 0 = R := ⟨_, rfl⟩
  have hb := idxF_lt infB? l 0 (by omega)
  rw [hR] at hb
  rw [← hb]
  have HI := asd (fun (w : World) (hr : Kd.C Kd.float w A l.length l) => index_inf A c l w hr hc hn)
  rw [hR] at HI
  have HR := asd hr
  clear hr hc hb hR
  go_enter Tryz.func52, Tryz.ntmps52
  go_wp2_with (go_at_call 98; refine (HI.out _ HR.out).mono ?_; rintro e w1 ⟨rfl, d⟩; have HB := asd d; clear d)
  go_ret
  exact ⟨rfl, HB.out⟩
theorem index_one : Calls Tryz.prog 98 #[.slice A l.length c, .func (.func 53) #[] #[]] w fun e w' => e = .returned (.int .i64 (idxF oneB l 0)) ∧ Below w.heap.size w w' := by
  obtain ⟨R, hR⟩ : ∃ R, idxF oneB l 0 = R := ⟨_, rfl⟩
  rw [hR]
  have HR := asd hr
  have H' := asd (show idxF oneB (l.drop 0) ((0 : Nat) : Int) = R from hR)
  have hlen : (0 : Int) ≤ (l.length : Int) := by omega
  clear hr hc hR
  go_enter Tryz.func98, Tryz.ntmps98
  go_wp2
  go_loopg [5, 8] l.length (fun kq v5 v8 w' => ∃ i : Nat, v8 = .int .i64 (i : Int) ∧ Aside0 (kq + i = l.length) ∧ Aside0 (idxF oneB (l.drop i) (i : Int) = R) ∧ Aside0 (Below w.heap.size w w'))
  case atStart => exact ⟨0, rfl, ⟨by omega⟩, H', ⟨Below.refl _ _⟩⟩
  case round =>
    clear H'
    obtain ⟨i, rfl, HK, HA, HB⟩ := hrel
    have hi0 : (0 : Int) ≤ (i : Int) := by omega
    cases gk with
    | zero =>
      have hi : i = l.length := by have := HK.out; omega
      have c1 : decide ((i : Int) < (l.length : Int)) = false := by simp; omega
      have hR : R = -1 := by have := HA.out; rw [hi, List.drop_length] at this; exact this.symm
      subst hR
      have c2 : decide (i < l.length) = false := by simp; omega
      clear hi
      go_wp2
      go_ret
      exact ⟨rfl, HB.out⟩
    | succ k1 =>
      have hi : i < l.length := by have := HK.out; omega
      have c1 : decide ((i : Int) < (l.length : Int)) = true := by simp; omega
      have p1 : 0 ≤ (i : Int) := hi0
      have q1 : (i : Int) < (l.length : Int) := by omega
      obtain ⟨ad, rfl, hx⟩ := Kd.at_float HR.out (i : Int) p1 q1
      replace hx := (HB.out.cell (World.block_lt_of_cell? w _ hx)).trans hx
      rw [Int.toNat_natCast] at hx
      have hA := HA.out
      rw [drop_rd l i hi] at hA
      unfold idxF at hA
      replace p1 := eq_true p1
      replace q1 := eq_true q1
      have HI := asd hi
      clear HA hi
      by_cases hp : oneB (rdOf (0 : Nat) l (i : Int)) = true
      · rw [if_pos hp] at hA
        subst hA
        go_wp2_with (go_at_call 53; refine (fn_one _ _).mono ?_; rw [hp]; rintro e w1 ⟨rfl, d⟩; have HB2 := asd (below_post d.below HB.out); clear d)
        go_ret
        exact ⟨rfl, HB2.out⟩
      · rw [if_neg hp] at hA
        have hp' : oneB (rdOf (0 : Nat) l (i : Int)) = false := by simpa using hp
        have HA := asd hA
        clear hA hp
        go_wp2_with (go_at_call 53; refine (fn_one _ _).mono ?_; rw [hp']; rintro e w1 ⟨rfl, d⟩; have HB2 := asd (below_post d.below HB.out); clear d)
        go_roundg k1
        case measure => omega
        case rel => exact ⟨i + 1, by congr 1; have := HI.out; exact (w64_of (by omega) (by omega)).trans (by omega), ⟨by have := HK.out; omega⟩, HA, ⟨HB2.out⟩⟩
theorem contains_one : Calls Tryz.prog 52 #[.slice A l.length c, .func (.func 53) #[] #[]] w fun e w' => e = .returned (.bool (l.any oneB)) ∧ Below w.heap.size w w' := by
  obtain ⟨R, hR⟩ : ∃ R, idxF oneB l 0 = R := ⟨_, rfl⟩
  have hb := idxF_lt oneB l 0 (by omega)
  rw [hR] at hb
  rw [← hb]
  have HI := asd (fun (w : World) (hr : Kd.C Kd.float w A l.length l) => index_one A c l w hr hc hn)
  rw [hR] at HI
  have HR := asd hr
  clear hr hc hb hR
  go_enter Tryz.func52, Tryz.ntmps52
  go_wp2_with (go_at_call 98; refine (HI.out _ HR.out).mono ?_; rintro e w1 ⟨rfl, d⟩; have HB := asd d; clear d)
  go_ret
  exact ⟨rfl, HB.out⟩
end
end Go.Proofs.YthmeocigliephaaGreatDoor.Big
end
section
namespace Go.Proofs.YthmeocigliephaaGreatDoor.Big
open Go.Proofs.YthmeocigliephaaGreatDoor.PSu Go.Proofs.YthmeocigliephaaGreatDoor.Plain
abbrev Lst := Option Addr × Nat × List Nat
def longB (x : Lst) : Bool := decide (65536 < x.2.2.length)
def scanF : List Lst → Bool → Int
  | [], inf => if inf = true then 5 else 0
  | x :: ls, inf => if x.2.2.any nanB = true then 4 else scanF ls (inf || x.2.2.any infB?)
def faultF (ls : List Lst) : Int := if ls.any longB = true then 2 else scanF ls false
theorem drop_lst (ls : List Lst) (i : Nat) (h : i < ls.length) : ls.drop i = ls.getD i (none, 0, []) :: ls.drop (i + 1) := by
  rw [List.drop_eq_getElem_cons h]
  congr 1
  simp [List.getD, h]
section
variable (g : Nat) (ls : List Lst) (w : World) (hg : ∀ i, i < ls.length → w.cell? ⟨g, i, none⟩ = some (.slice (ls.getD i (none, 0, [])).1 (ls.getD i (none, 0, [])).2.2.length (ls.getD i (none, 0, [])).2.1))
  (hl : ∀ i, i < ls.length → Kd.C Kd.float w (ls.getD i (none, 0, [])).1 (ls.getD i (none, 0, [])).2.2.length (ls.getD i (none, 0, [])).2.2 ∧ (ls.getD i (none, 0, [])).2.2.length ≤ (ls.getD i (none, 0, [])).2.1 ∧ (ls.getD i (none, 0, [])).2.2.length < 4611686018427387904) (hn : ls.length < 4611686018427387904)
include hg hl hn
theorem fault_any : Calls Tryz.prog 50 #[.slice (some ⟨g, 0, none⟩) ls.length ls.length] w fun e w' => e = .returned (.int .i64 (faultF ls)) ∧ Below w.heap.size w w' := by
  obtain ⟨R, hR⟩ : ∃ R, faultF ls = R := ⟨_, rfl⟩
  rw [hR]
  unfold faultF at hR
  have G := asd hg
  have C := asd hl
  have H' := asd (show (if (ls.drop 0).any longB = true then 2 else scanF ls false) = R from hR)
  have hlen : (0 : Int) ≤ (ls.length : Int) := by omega
  clear hg hl hR
  go_enter Tryz.func50, Tryz.ntmps50
  go_wp2
  go_loopg [5, 10] ls.length (fun kq v5 v10 w' => ∃ i : Nat, v10 = .int .i64 (i : Int) ∧ Aside0 (kq + i = ls.length) ∧ Aside0 ((if (ls.drop i).any longB = true then 2 else scanF ls false) = R) ∧ Aside0 (Below w.heap.size w w'))
  case atStart => exact ⟨0, rfl, ⟨by omega⟩, H', ⟨Below.refl _ _⟩⟩
  case round =>
    clear H'
    obtain ⟨i, rfl, HK, HA, HB⟩ := hrel
    have hi0 : (0 : Int) ≤ (i : Int) := by omega
    cases gk with
    | zero =>
      have hi : i = ls.length := by have := HK.out; omega
      have c1 : decide ((i : Int) < (ls.length : Int)) = false := by simp; omega
      have c2 : decide (i < ls.length) = false := by simp; omega
      have H' := asd (show scanF (ls.drop 0) false = R by have := HA.out; rw [hi, List.drop_length] at this; simpa using this)
      clear hi HA
      go_wp2
      go_loopg [3, 7, 20] ls.length (fun kq v3 v7 v20 w' => ∃ (j : Nat) (b : Bool), v3 = .bool b ∧ v20 = .int .i64 (j : Int) ∧ Aside0 (kq + j = ls.length) ∧ Aside0 (scanF (ls.drop j) b = R) ∧ Aside0 (Below w.heap.size w w'))
      case atStart => exact ⟨0, false, rfl, rfl, ⟨by omega⟩, H', HB⟩
      case round =>
        clear H' HB HK hi0 c1 c2
        obtain ⟨j, b, rfl, rfl, HK, HA, HB⟩ := hrel
        have hi0 : (0 : Int) ≤ (j : Int) := by omega
        cases gk with
        | zero =>
          have hi : j = ls.length := by have := HK.out; omega
          have c1 : decide ((j : Int) < (ls.length : Int)) = false := by simp; omega
          have c2 : decide (j < ls.length) = false := by simp; omega
          have hA := HA.out
          rw [hi, List.drop_length] at hA
          unfold scanF at hA
          clear hi HA
          cases b
          · have hA' : R = 0 := by simpa using hA.symm
            subst hA'
            clear hA
            go_wp2
            go_ret
            exact ⟨rfl, HB.out⟩
          · have hA' : R = 5 := by simpa using hA.symm
            subst hA'
            clear hA
            go_wp2
            go_ret
            exact ⟨rfl, HB.out⟩
        | succ k1 =>
          have hi : j < ls.length := by have := HK.out; omega
          have c1 : decide ((j : Int) < (ls.length : Int)) = true := by simp; omega
          have c2 : decide (j < ls.length) = true := by simp; omega
          have hA := HA.out
          rw [drop_lst ls j hi] at hA
          have hx := G.out j hi
          obtain ⟨hC, hcc, hll⟩ := C.out j hi
          obtain ⟨⟨A, c, l⟩, hx1⟩ : ∃ x, ls.getD j (none, 0, []) = x := ⟨_, rfl⟩
          rw [hx1] at hx hC hcc hll hA
          simp only at hx hC hcc hll
          unfold scanF at hA
          simp only at hA
          replace hx := (HB.out.cell (World.block_lt_of_cell? w _ hx)).trans hx
          have CC := asd hC
          have HCC := asd hcc
          have HLL := asd hll
          have q1 := eq_true (show (j : Int) < (ls.length : Int) by omega)
          have HI := asd hi
          clear hi hC hcc hll hx1 HA
          by_cases hp : l.any nanB = true
          · rw [if_pos hp] at hA
            subst hA
            have HP := asd hp
            clear hp
            go_wp2_with (go_at_call 52; refine (contains_nan A c l _ (Kd.C_below CC.out HB.out) HCC.out HLL.out).mono ?_; rw [HP.out]; rintro e w1 ⟨rfl, d⟩; have HB2 := asd (below_post d HB.out); clear d)
            go_ret
            exact ⟨rfl, HB2.out⟩
          · rw [if_neg hp] at hA
            have HP := asd (show l.any nanB = false by simpa using hp)
            have HA := asd hA
            clear hp hA
            cases b
            · go_wp2_with (first
                | (go_at_call 52; (with_reducible refine (contains_nan A c l _ (Kd.C_below CC.out HB.out) HCC.out HLL.out).mono ?_); rw [HP.out]; rintro e w1 ⟨rfl, d⟩; have HB2 := asd (below_post d HB.out); clear d)
                | (go_at_call 52; (with_reducible refine (contains_inf A c l _ (Kd.C_below CC.out HB2.out) HCC.out HLL.out).mono ?_); rintro e w1 ⟨rfl, d⟩; have HB3 := asd (below_post d HB2.out); clear d))
              go_roundg k1
              case measure => omega
              case rel => exact ⟨j + 1, l.any infB?, by first | rfl | simp, by congr 1; have := HI.out; exact (w64_of (by omega) (by omega)).trans (by omega), ⟨by have := HK.out; omega⟩, ⟨by simpa using HA.out⟩, ⟨HB3.out⟩⟩
            · go_wp2_with (go_at_call 52; (with_reducible refine (contains_nan A c l _ (Kd.C_below CC.out HB.out) HCC.out HLL.out).mono ?_); rw [HP.out]; rintro e w1 ⟨rfl, d⟩; have HB2 := asd (below_post d HB.out); clear d)
              go_roundg k1
              case measure => omega
              case rel => exact ⟨j + 1, true, by first | rfl | simp, by congr 1; have := HI.out; exact (w64_of (by omega) (by omega)).trans (by omega), ⟨by have := HK.out; omega⟩, ⟨by simpa using HA.out⟩, ⟨HB2.out⟩⟩
    | succ k1 =>
      have hi : i < ls.length := by have := HK.out; omega
      have c1 : decide ((i : Int) < (ls.length : Int)) = true := by simp; omega
      have c2 : decide (i < ls.length) = true := by simp; omega
      have hA := HA.out
      rw [drop_lst ls i hi] at hA
      have hx := G.out i hi
      obtain ⟨⟨A, c, l⟩, hx1⟩ : ∃ x, ls.getD i (none, 0, []) = x := ⟨_, rfl⟩
      rw [hx1] at hx hA
      simp only at hx
      rw [List.any_cons] at hA
      replace hx := (HB.out.cell (World.block_lt_of_cell? w _ hx)).trans hx
      have q1 := eq_true (show (i : Int) < (ls.length : Int) by omega)
      have HI := asd hi
      clear hi hx1 HA
      by_cases hp : 65536 < l.length
      · have c3 : decide ((l.length : Int) > 65536) = true := by simp; omega
        have hb : longB (A, c, l) = true := decide_eq_true hp
        rw [hb] at hA
        simp only [Bool.true_or, if_true] at hA
        subst hA
        clear hp hb
        go_wp2
        go_ret
        exact ⟨rfl, HB.out⟩
      · have c3 : decide ((l.length : Int) > 65536) = false := by simp; omega
        have hb : longB (A, c, l) = false := decide_eq_false hp
        rw [hb, Bool.false_or] at hA
        have HA := asd hA
        clear hp hb hA
        go_wp2
        go_roundg k1
        case measure => omega
        case rel => exact ⟨i + 1, by congr 1; have := HI.out; exact (w64_of (by omega) (by omega)).trans (by omega), ⟨by have := HK.out; omega⟩, HA, HB⟩
end
end Go.Proofs.YthmeocigliephaaGreatDoor.Big
end
section
namespace Go.Proofs.YthmeocigliephaaGreatDoor.PSu
attribute [local go_sem] f64bits_run f64from_run run_float_some max2_int min2_int max_two min_two max_three min_three max_four min_four
def cuspref01_Bits.f (a0 : Nat) : Option (Int) := some ((a0 : Nat) : Int)
theorem cuspref01_Bits.calls (a0 : Nat) (r : Int) (w : World) (h : cuspref01_Bits.f a0 = some r) :
  Calls Tryz.prog 83 #[.float .f64 a0] w fun e w' => e = .returned (.int .u64 r) ∧ Drawn0 w w' := by
 have H := h
 clear h
 unfold cuspref01_Bits.f at H
 obtain rfl := Option.some.inj H
 go_enter Tryz.func83, Tryz.ntmps83
 go_wp2
 go_ret
 exact ⟨eqB, dn0⟩
def cuspref01_mag.f (a0 : Nat) : Option (Int) := (cuspref01_Bits.f a0).bind fun t101 => (some (Go.bits .andNot .u64 t101 9223372036854775808))
theorem cuspref01_mag.calls (a0 : Nat) (r : Int) (w : World) (h : cuspref01_mag.f a0 = some r) :
  Calls Tryz.prog 62 #[.float .f64 a0] w fun e w' => e = .returned (.int .u64 r) ∧ Drawn0 w w' := by
 have H := h
 clear h
 unfold cuspref01_mag.f at H
 replace H := Option.bind_eq_some_iff.mp H
 obtain ⟨t101, A20, H⟩ := H
 have A2 := asd A20
 clear A20
 obtain rfl := Option.some.inj H
 go_enter Tryz.func62, Tryz.ntmps62
 go_wp2_with (first | ((with_reducible refine gate_callee (f := 83) rfl ?_); refine goesL_ (some 4) rfl rfl Tryz.func83 (by kernel_rfl) rfl #[.float .f64 a0] rfl eqA ?_; (with_reducible refine (cuspref01_Bits.calls a0 t101 _ A2.out).mono ?_); rintro e w' ⟨rfl, ⟨nd, rfl⟩⟩; refine ⟨_, rfl, ?_⟩))
 go_ret
 exact ⟨eqB, dn0⟩
def cuspref01_IsNaN.f (a0 : Nat) : Option (Bool) := (cuspref01_mag.f a0).bind fun t102 => (some (decide (t102 > 9218868437227405312)))
theorem cuspref01_IsNaN.calls (a0 : Nat) (r : Bool) (w : World) (h : cuspref01_IsNaN.f a0 = some r) :
  Calls Tryz.prog 73 #[.float .f64 a0] w fun e w' => e = .returned (.bool r) ∧ Drawn0 w w' := by
 have H := h
 clear h
 unfold cuspref01_IsNaN.f at H
 replace H := Option.bind_eq_some_iff.mp H
 obtain ⟨t102, A20, H⟩ := H
 have A2 := asd A20
 clear A20
 obtain rfl := Option.some.inj H
 go_enter Tryz.func73, Tryz.ntmps73
 go_wp2_with (first | ((with_reducible refine gate_callee (f := 62) rfl ?_); refine goesL_ (some 4) rfl rfl Tryz.func62 (by kernel_rfl) rfl #[.float .f64 a0] rfl eqA ?_; (with_reducible refine (cuspref01_mag.calls a0 t102 _ A2.out).mono ?_); rintro e w' ⟨rfl, ⟨nd, rfl⟩⟩; refine ⟨_, rfl, ?_⟩))
 go_ret
 exact ⟨eqB, dn0⟩
def cuspref01_Same.f (a0 : Nat) (a1 : Nat) : Option (Bool) := (cuspref01_Bits.f a0).bind fun t103 => ((cuspref01_Bits.f a1).bind fun t104 => (if t103 = t104 then (some true) else ((cuspref01_IsNaN.f a0).bind fun t105 => (if t105 = true then ((cuspref01_IsNaN.f a1).bind fun t106 => (some t106)) else (some false)))))
theorem cuspref01_Same.calls (a0 : Nat) (a1 : Nat) (r : Bool) (w : World) (h : cuspref01_Same.f a0 a1 = some r) :
  Calls Tryz.prog 38 #[.float .f64 a0, .float .f64 a1] w fun e w' => e = .returned (.bool r) ∧ Drawn0 w w' := by
 have H := h
 clear h
 unfold cuspref01_Same.f at H
 replace H := Option.bind_eq_some_iff.mp H
 obtain ⟨t103, A30, H⟩ := H
 have A3 := asd A30
 clear A30
 replace H := Option.bind_eq_some_iff.mp H
 obtain ⟨t104, A40, H⟩ := H
 have A4 := asd A40
 clear A40
 by_cases c5 : t103 = t104
 ·rw [if_pos c5] at H
  have c5b0 := beq_iff_eq.mpr c5
  have c5b1 := bne_eq_false_iff_eq.mpr c5
  clear c5
  obtain rfl := Option.some.inj H
  go_enter Tryz.func38, Tryz.ntmps38
  go_wp2_with (first | ((with_reducible refine gate_callee (f := 83) rfl ?_); refine goesL_ (some 6) rfl rfl Tryz.func83 (by kernel_rfl) rfl #[.float .f64 a0] rfl eqA ?_; (with_reducible refine (cuspref01_Bits.calls a0 t103 _ A3.out).mono ?_); rintro e w' ⟨rfl, ⟨nd, rfl⟩⟩; refine ⟨_, rfl, ?_⟩) | ((with_reducible refine gate_callee (f := 83) rfl ?_); refine goesL_ (some 8) rfl rfl Tryz.func83 (by kernel_rfl) rfl #[.float .f64 a1] rfl eqA ?_; (with_reducible refine (cuspref01_Bits.calls a1 t104 _ A4.out).mono ?_); rintro e w' ⟨rfl, ⟨nd, rfl⟩⟩; refine ⟨_, rfl, ?_⟩))
  go_ret
  exact ⟨eqB, dn0⟩
 ·rw [if_neg c5] at H
  have c5b0 := beq_eq_false_iff_ne.mpr c5
  have c5b1 := bne_iff_ne.mpr c5
  replace H := Option.bind_eq_some_iff.mp H
  obtain ⟨t105, A60, H⟩ := H
  have A6 := asd A60
  clear A60
  by_cases c7 : t105 = true
  ·subst c7
   rw [if_pos rfl] at H
   replace H := Option.bind_eq_some_iff.mp H
   obtain ⟨t106, A80, H⟩ := H
   have A8 := asd A80
   clear A80
   obtain rfl := Option.some.inj H
   go_enter Tryz.func38, Tryz.ntmps38
   go_wp2_with (first | ((with_reducible refine gate_callee (f := 83) rfl ?_); refine goesL_ (some 6) rfl rfl Tryz.func83 (by kernel_rfl) rfl #[.float .f64 a0] rfl eqA ?_; (with_reducible refine (cuspref01_Bits.calls a0 t103 _ A3.out).mono ?_); rintro e w' ⟨rfl, ⟨nd, rfl⟩⟩; refine ⟨_, rfl, ?_⟩) | ((with_reducible refine gate_callee (f := 83) rfl ?_); refine goesL_ (some 8) rfl rfl Tryz.func83 (by kernel_rfl) rfl #[.float .f64 a1] rfl eqA ?_; (with_reducible refine (cuspref01_Bits.calls a1 t104 _ A4.out).mono ?_); rintro e w' ⟨rfl, ⟨nd, rfl⟩⟩; refine ⟨_, rfl, ?_⟩) | (go_at_call 73; (with_reducible refine (cuspref01_IsNaN.calls a0 true _ A6.out).mono ?_); rintro e w' ⟨rfl, ⟨nd, rfl⟩⟩) | (go_at_call 73; (with_reducible refine (cuspref01_IsNaN.calls a1 t106 _ A8.out).mono ?_); rintro e w' ⟨rfl, ⟨nd, rfl⟩⟩))
   go_ret
   exact ⟨eqB, dn0⟩
  ·replace c7 := Bool.eq_false_iff.mpr c7
   subst c7
   rw [if_neg (show ¬ (false = true) by decide)] at H
   obtain rfl := Option.some.inj H
   go_enter Tryz.func38, Tryz.ntmps38
   go_wp2_with (first | ((with_reducible refine gate_callee (f := 83) rfl ?_); refine goesL_ (some 6) rfl rfl Tryz.func83 (by kernel_rfl) rfl #[.float .f64 a0] rfl eqA ?_; (with_reducible refine (cuspref01_Bits.calls a0 t103 _ A3.out).mono ?_); rintro e w' ⟨rfl, ⟨nd, rfl⟩⟩; refine ⟨_, rfl, ?_⟩) | ((with_reducible refine gate_callee (f := 83) rfl ?_); refine goesL_ (some 8) rfl rfl Tryz.func83 (by kernel_rfl) rfl #[.float .f64 a1] rfl eqA ?_; (with_reducible refine (cuspref01_Bits.calls a1 t104 _ A4.out).mono ?_); rintro e w' ⟨rfl, ⟨nd, rfl⟩⟩; refine ⟨_, rfl, ?_⟩) | (go_at_call 73; (with_reducible refine (cuspref01_IsNaN.calls a0 false _ A6.out).mono ?_); rintro e w' ⟨rfl, ⟨nd, rfl⟩⟩))
   go_ret
   exact ⟨eqB, dn0⟩
def cusplaw05_same.f (a0 : Nat) (a1 : Nat) : Option (Bool) := (cuspref01_Same.f a0 a1).bind fun t107 => (some t107)
theorem cusplaw05_same.calls (a0 : Nat) (a1 : Nat) (r : Bool) (w : World) (h : cusplaw05_same.f a0 a1 = some r) :
  Calls Tryz.prog 11 #[.float .f64 a0, .float .f64 a1] w fun e w' => e = .returned (.bool r) ∧ Drawn0 w w' := by
 have H := h
 clear h
 unfold cusplaw05_same.f at H
 replace H := Option.bind_eq_some_iff.mp H
 obtain ⟨t107, A30, H⟩ := H
 have A3 := asd A30
 clear A30
 obtain rfl := Option.some.inj H
 go_enter Tryz.func11, Tryz.ntmps11
 go_wp2_with (first | ((with_reducible refine gate_callee (f := 38) rfl ?_); refine goesL_ (some 7) rfl rfl Tryz.func38 (by kernel_rfl) rfl #[.float .f64 a0, .float .f64 a1] rfl eqA ?_; (with_reducible refine (cuspref01_Same.calls a0 a1 t107 _ A3.out).mono ?_); rintro e w' ⟨rfl, ⟨nd, rfl⟩⟩; refine ⟨_, rfl, ?_⟩))
 go_ret
 exact ⟨eqB, dn0⟩
def round_Valid.f (a0 : Int) : Option (Int) := if a0 = 1 then (some 0) else (if a0 = 2 then (some 0) else (if a0 = 3 then (some 0) else (some 1)))
theorem round_Valid.calls (a0 : Int) (r : Int) (w : World) (h : round_Valid.f a0 = some r) :
  Calls Tryz.prog 49 #[.int .i64 a0] w fun e w' => e = .returned (.int .i64 r) ∧ Drawn0 w w' := by
 have H := h
 clear h
 unfold round_Valid.f at H
 by_cases c2 : a0 = 1
 ·rw [if_pos c2] at H
  have c2b0 := beq_iff_eq.mpr c2
  have c2b1 := bne_eq_false_iff_eq.mpr c2
  clear c2
  obtain rfl := Option.some.inj H
  go_enter Tryz.func49, Tryz.ntmps49
  go_wp2
  go_ret
  exact ⟨eqB, dn0⟩
 ·rw [if_neg c2] at H
  have c2b0 := beq_eq_false_iff_ne.mpr c2
  have c2b1 := bne_iff_ne.mpr c2
  by_cases c3 : a0 = 2
  ·rw [if_pos c3] at H
   have c3b0 := beq_iff_eq.mpr c3
   have c3b1 := bne_eq_false_iff_eq.mpr c3
   clear c3
   obtain rfl := Option.some.inj H
   go_enter Tryz.func49, Tryz.ntmps49
   go_wp2
   go_ret
   exact ⟨eqB, dn0⟩
  ·rw [if_neg c3] at H
   have c3b0 := beq_eq_false_iff_ne.mpr c3
   have c3b1 := bne_iff_ne.mpr c3
   by_cases c4 : a0 = 3
   ·rw [if_pos c4] at H
    have c4b0 := beq_iff_eq.mpr c4
    have c4b1 := bne_eq_false_iff_eq.mpr c4
    clear c4
    obtain rfl := Option.some.inj H
    go_enter Tryz.func49, Tryz.ntmps49
    go_wp2
    go_ret
    exact ⟨eqB, dn0⟩
   ·rw [if_neg c4] at H
    have c4b0 := beq_eq_false_iff_ne.mpr c4
    have c4b1 := bne_iff_ne.mpr c4
    obtain rfl := Option.some.inj H
    go_enter Tryz.func49, Tryz.ntmps49
    go_wp2
    go_ret
    exact ⟨eqB, dn0⟩
def dyad_Valid.f (a0_0 : Bool) (l0_1 : List Int) (a0_2 : Int) : Option (Bool) := if (l0_1.length : Int) = 0 then (if a0_2 = 0 then (some (!a0_0)) else (some false)) else (if (l0_1.length : Int) ≤ 2048 then (if 0 ≤ (wrap64 ((l0_1.length : Int) - 1)) then (if (wrap64 ((l0_1.length : Int) - 1)) < (l0_1.length : Int) then (if (rd l0_1 (wrap64 ((l0_1.length : Int) - 1))) = 0 then (some false) else (if 0 < (l0_1.length : Int) then (if (Go.bits .and .u32 (rd l0_1 0) 1) = 1 then (if a0_2 ≥ (-65536) then (some (decide (a0_2 ≤ 65536))) else (some false)) else (some false)) else (none))) else (none)) else (none)) else (some false))
theorem dyad_Valid.calls (a0_0 : Bool) (A0_1 : Option Addr) (c0_1 : Nat) (l0_1 : List Int) (a0_2 : Int) (r : Bool) (w : World) (hr0_1 : Kd.C (Kd.int .u32) w A0_1 l0_1.length l0_1) (hc0_1 : l0_1.length ≤ c0_1) (h : dyad_Valid.f a0_0 l0_1 a0_2 = some r) :
  Calls Tryz.prog 91 #[.agg #[.bool a0_0, .slice A0_1 l0_1.length c0_1, .int .i64 a0_2]] w fun e w' => e = .returned (.bool r) ∧ Below w.heap.size w w' := by
 have hu60 := Tryz.underlying60
 have HR0_1 := asd hr0_1
 have HC0_1 := asd hc0_1
 clear hr0_1 hc0_1
 have HB := asd (Below.refl w.heap.size w)
 have H := h
 clear h
 unfold dyad_Valid.f at H
 by_cases c2 : (l0_1.length : Int) = 0
 ·rw [if_pos c2] at H
  have c2b0 := beq_iff_eq.mpr c2
  have c2b1 := bne_eq_false_iff_eq.mpr c2
  clear c2
  by_cases c3 : a0_2 = 0
  ·rw [if_pos c3] at H
   have c3b0 := beq_iff_eq.mpr c3
   have c3b1 := bne_eq_false_iff_eq.mpr c3
   clear c3
   obtain rfl := Option.some.inj H
   go_enter Tryz.func91, Tryz.ntmps91
   go_wp2_with (first | ((with_reducible refine gate_dst (N := 1) rfl ?_); refine box_ev (w := w) ?hg (N := 1) ?hd hbw (cs := #[.bool a0_0, .slice A0_1 l0_1.length c0_1, .int .i64 a0_2]) (t := 60) ?hr ?_; (case hd => rfl); (case hg => rfl); (case hr => first | (go_simp; done) | (go_simp; rfl)); clear HB; intro gb108 w4 HB BK108 GW108; have GE108 := GW108; obtain ⟨hcz5_0, hcz5_1, hcz5_2, hfz5_0, hfz5_1, hfz5_2⟩ := cz3 BK108.out))
   go_ret
   exact ⟨eqC, hbs⟩
  ·rw [if_neg c3] at H
   have c3b0 := beq_eq_false_iff_ne.mpr c3
   have c3b1 := bne_iff_ne.mpr c3
   obtain rfl := Option.some.inj H
   go_enter Tryz.func91, Tryz.ntmps91
   go_wp2_with (first | ((with_reducible refine gate_dst (N := 1) rfl ?_); refine box_ev (w := w) ?hg (N := 1) ?hd hbw (cs := #[.bool a0_0, .slice A0_1 l0_1.length c0_1, .int .i64 a0_2]) (t := 60) ?hr ?_; (case hd => rfl); (case hg => rfl); (case hr => first | (go_simp; done) | (go_simp; rfl)); clear HB; intro gb108 w6 HB BK108 GW108; have GE108 := GW108; obtain ⟨hcz7_0, hcz7_1, hcz7_2, hfz7_0, hfz7_1, hfz7_2⟩ := cz3 BK108.out))
   go_ret
   exact ⟨eqC, hbs⟩
 ·rw [if_neg c2] at H
  have c2b0 := beq_eq_false_iff_ne.mpr c2
  have c2b1 := bne_iff_ne.mpr c2
  have c2b2 : ¬ (l0_1 = []) := fun h_ => c2 (by rw [h_]; rfl)
  by_cases c8 : (l0_1.length : Int) ≤ 2048
  ·rw [if_pos c8] at H
   have c8b0 := decide_eq_true c8
   have c8b1 : decide (l0_1.length ≤ 2048) = true := decide_eq_true (by omega)
   clear c8
   obtain ⟨ji9, hji9⟩ : ∃ j_ : Int, (wrap64 ((l0_1.length : Int) - 1)) = j_ := ⟨_, rfl⟩
   first | rw [hji9] at H | simp only [hji9] at H ⊢
   have hji9w : (IntKind.i64.wrap ((l0_1.length : Int) - 1)) = ji9 := (i64_w _).trans hji9
   by_cases c10 : 0 ≤ (ji9)
   ·rw [if_pos c10] at H
    have c10b0 := decide_eq_true c10
    clear c10
    by_cases c11 : (ji9) < (l0_1.length : Int)
    ·rw [if_pos c11] at H
     have c11b0 := decide_eq_true c11
     clear c11
     by_cases c12 : (rd l0_1 (ji9)) = 0
     ·rw [if_pos c12] at H
      have c12b0 := beq_iff_eq.mpr c12
      have c12b1 := bne_eq_false_iff_eq.mpr c12
      clear c12
      obtain rfl := Option.some.inj H
      go_enter Tryz.func91, Tryz.ntmps91
      go_wp2_with (first | ((with_reducible refine gate_dst (N := 1) rfl ?_); refine box_ev (w := w) ?hg (N := 1) ?hd hbw (cs := #[.bool a0_0, .slice A0_1 l0_1.length c0_1, .int .i64 a0_2]) (t := 60) ?hr ?_; (case hd => rfl); (case hg => rfl); (case hr => first | (go_simp; done) | (go_simp; rfl)); clear HB; intro gb108 w13 HB BK108 GW108; have GE108 := GW108; obtain ⟨hcz14_0, hcz14_1, hcz14_2, hfz14_0, hfz14_1, hfz14_2⟩ := cz3 BK108.out; have p109 : 0 ≤ ((ji9) : Int) := odt; have q109 : (ji9) < (l0_1.length : Int) := odt; obtain ⟨ad109, e109, hx109_0⟩ := Kd.at_int HR0_1.out (ji9) p109 q109; cases e109; replace hx109_0 := (HB.out.cell (World.block_lt_of_cell? w _ hx109_0)).trans hx109_0; replace p109 := eq_true p109; replace q109 := eq_true q109))
      go_ret
      exact ⟨by first | rfl | (simp [errW_none, errW_some] <;> rfl) | (simp only [← hji9]; first | rfl | (simp [errW_none, errW_some] <;> rfl)) | (simp [*, errW_none, errW_some] <;> rfl), hbs⟩
     ·rw [if_neg c12] at H
      have c12b0 := beq_eq_false_iff_ne.mpr c12
      have c12b1 := bne_iff_ne.mpr c12
      by_cases c15 : 0 < (l0_1.length : Int)
      ·rw [if_pos c15] at H
       have c15b0 := decide_eq_true c15
       have c15b1 : decide (0 < l0_1.length) = true := decide_eq_true (by omega)
       clear c15
       by_cases c16 : (Go.bits .and .u32 (rd l0_1 0) 1) = 1
       ·rw [if_pos c16] at H
        have c16b0 := beq_iff_eq.mpr c16
        have c16b1 := bne_eq_false_iff_eq.mpr c16
        clear c16
        by_cases c17 : a0_2 ≥ (-65536)
        ·rw [if_pos c17] at H
         have c17b0 := decide_eq_true c17
         clear c17
         obtain rfl := Option.some.inj H
         go_enter Tryz.func91, Tryz.ntmps91
         go_wp2_with (first | ((with_reducible refine gate_dst (N := 1) rfl ?_); refine box_ev (w := w) ?hg (N := 1) ?hd hbw (cs := #[.bool a0_0, .slice A0_1 l0_1.length c0_1, .int .i64 a0_2]) (t := 60) ?hr ?_; (case hd => rfl); (case hg => rfl); (case hr => first | (go_simp; done) | (go_simp; rfl)); clear HB; intro gb108 w18 HB BK108 GW108; have GE108 := GW108; obtain ⟨hcz19_0, hcz19_1, hcz19_2, hfz19_0, hfz19_1, hfz19_2⟩ := cz3 BK108.out; have p109 : 0 ≤ ((ji9) : Int) := odt; have q109 : (ji9) < (l0_1.length : Int) := odt; obtain ⟨ad109, e109, hx109_0⟩ := Kd.at_int HR0_1.out (ji9) p109 q109; cases e109; replace hx109_0 := (HB.out.cell (World.block_lt_of_cell? w _ hx109_0)).trans hx109_0; replace p109 := eq_true p109; replace q109 := eq_true q109; have p110 : 0 ≤ (0 : Int) := (by omega); have q110 : 0 < (l0_1.length : Int) := odt; obtain ⟨ad110, e110, hx110_0⟩ := Kd.at_int HR0_1.out 0 p110 q110; obtain rfl : ad109 = ad110 := (by injection e110); have qi110 : (0 < l0_1.length) = True := eq_true (by omega); (try rw [show ((0 : Int)).toNat = 0 from rfl] at hx110_0); (try rw [Addr.add_zero'] at hx110_0); replace hx110_0 := (HB.out.cell (World.block_lt_of_cell? w _ hx110_0)).trans hx110_0; replace p110 := eq_true p110; replace q110 := eq_true q110))
         go_ret
         exact ⟨by first | rfl | (simp [errW_none, errW_some] <;> rfl) | (simp only [← hji9]; first | rfl | (simp [errW_none, errW_some] <;> rfl)) | (simp [*, errW_none, errW_some] <;> rfl), hbs⟩
        ·rw [if_neg c17] at H
         have c17b0 := decide_eq_false c17
         clear c17
         obtain rfl := Option.some.inj H
         go_enter Tryz.func91, Tryz.ntmps91
         go_wp2_with (first | ((with_reducible refine gate_dst (N := 1) rfl ?_); refine box_ev (w := w) ?hg (N := 1) ?hd hbw (cs := #[.bool a0_0, .slice A0_1 l0_1.length c0_1, .int .i64 a0_2]) (t := 60) ?hr ?_; (case hd => rfl); (case hg => rfl); (case hr => first | (go_simp; done) | (go_simp; rfl)); clear HB; intro gb108 w20 HB BK108 GW108; have GE108 := GW108; obtain ⟨hcz21_0, hcz21_1, hcz21_2, hfz21_0, hfz21_1, hfz21_2⟩ := cz3 BK108.out; have p109 : 0 ≤ ((ji9) : Int) := odt; have q109 : (ji9) < (l0_1.length : Int) := odt; obtain ⟨ad109, e109, hx109_0⟩ := Kd.at_int HR0_1.out (ji9) p109 q109; cases e109; replace hx109_0 := (HB.out.cell (World.block_lt_of_cell? w _ hx109_0)).trans hx109_0; replace p109 := eq_true p109; replace q109 := eq_true q109; have p110 : 0 ≤ (0 : Int) := (by omega); have q110 : 0 < (l0_1.length : Int) := odt; obtain ⟨ad110, e110, hx110_0⟩ := Kd.at_int HR0_1.out 0 p110 q110; obtain rfl : ad109 = ad110 := (by injection e110); have qi110 : (0 < l0_1.length) = True := eq_true (by omega); (try rw [show ((0 : Int)).toNat = 0 from rfl] at hx110_0); (try rw [Addr.add_zero'] at hx110_0); replace hx110_0 := (HB.out.cell (World.block_lt_of_cell? w _ hx110_0)).trans hx110_0; replace p110 := eq_true p110; replace q110 := eq_true q110))
         go_ret
         exact ⟨by first | rfl | (simp [errW_none, errW_some] <;> rfl) | (simp only [← hji9]; first | rfl | (simp [errW_none, errW_some] <;> rfl)) | (simp [*, errW_none, errW_some] <;> rfl), hbs⟩
       ·rw [if_neg c16] at H
        have c16b0 := beq_eq_false_iff_ne.mpr c16
        have c16b1 := bne_iff_ne.mpr c16
        obtain rfl := Option.some.inj H
        go_enter Tryz.func91, Tryz.ntmps91
        go_wp2_with (first | ((with_reducible refine gate_dst (N := 1) rfl ?_); refine box_ev (w := w) ?hg (N := 1) ?hd hbw (cs := #[.bool a0_0, .slice A0_1 l0_1.length c0_1, .int .i64 a0_2]) (t := 60) ?hr ?_; (case hd => rfl); (case hg => rfl); (case hr => first | (go_simp; done) | (go_simp; rfl)); clear HB; intro gb108 w22 HB BK108 GW108; have GE108 := GW108; obtain ⟨hcz23_0, hcz23_1, hcz23_2, hfz23_0, hfz23_1, hfz23_2⟩ := cz3 BK108.out; have p109 : 0 ≤ ((ji9) : Int) := odt; have q109 : (ji9) < (l0_1.length : Int) := odt; obtain ⟨ad109, e109, hx109_0⟩ := Kd.at_int HR0_1.out (ji9) p109 q109; cases e109; replace hx109_0 := (HB.out.cell (World.block_lt_of_cell? w _ hx109_0)).trans hx109_0; replace p109 := eq_true p109; replace q109 := eq_true q109; have p110 : 0 ≤ (0 : Int) := (by omega); have q110 : 0 < (l0_1.length : Int) := odt; obtain ⟨ad110, e110, hx110_0⟩ := Kd.at_int HR0_1.out 0 p110 q110; obtain rfl : ad109 = ad110 := (by injection e110); have qi110 : (0 < l0_1.length) = True := eq_true (by omega); (try rw [show ((0 : Int)).toNat = 0 from rfl] at hx110_0); (try rw [Addr.add_zero'] at hx110_0); replace hx110_0 := (HB.out.cell (World.block_lt_of_cell? w _ hx110_0)).trans hx110_0; replace p110 := eq_true p110; replace q110 := eq_true q110))
        go_ret
        exact ⟨by first | rfl | (simp [errW_none, errW_some] <;> rfl) | (simp only [← hji9]; first | rfl | (simp [errW_none, errW_some] <;> rfl)) | (simp [*, errW_none, errW_some] <;> rfl), hbs⟩
      ·rw [if_neg c15] at H
       exact absurd H (by simp)
    ·rw [if_neg c11] at H
     exact absurd H (by simp)
   ·rw [if_neg c10] at H
    exact absurd H (by simp)
  ·rw [if_neg c8] at H
   have c8b0 := decide_eq_false c8
   have c8b1 : decide (l0_1.length ≤ 2048) = false := decide_eq_false (by omega)
   clear c8
   obtain rfl := Option.some.inj H
   go_enter Tryz.func91, Tryz.ntmps91
   go_wp2_with (first | ((with_reducible refine gate_dst (N := 1) rfl ?_); refine box_ev (w := w) ?hg (N := 1) ?hd hbw (cs := #[.bool a0_0, .slice A0_1 l0_1.length c0_1, .int .i64 a0_2]) (t := 60) ?hr ?_; (case hd => rfl); (case hg => rfl); (case hr => first | (go_simp; done) | (go_simp; rfl)); clear HB; intro gb108 w24 HB BK108 GW108; have GE108 := GW108; obtain ⟨hcz25_0, hcz25_1, hcz25_2, hfz25_0, hfz25_1, hfz25_2⟩ := cz3 BK108.out))
   go_ret
   exact ⟨eqC, hbs⟩
def dyad_Sign.j0 : Nat → Bool → Bool → List Int → Int → Option (Int)
 | 0, _, _, _, _ => none
 | k + 1, x3, x112000, x112001, x112002 => if x3 = true then (some 0) else (if x112000 = true then (some (-1)) else (some 1))
def dyad_Sign.f (k : Nat) (a0_0 : Bool) (l0_1 : List Int) (a0_2 : Int) : Option (Int) := (dyad_Valid.f a0_0 l0_1 a0_2).bind fun t112 => (if t112 = true then (dyad_Sign.j0 k ((l0_1.length : Int) == 0) a0_0 l0_1 a0_2) else (dyad_Sign.j0 k true a0_0 l0_1 a0_2))
theorem dyad_Sign.calls (k : Nat) (a0_0 : Bool) (A0_1 : Option Addr) (c0_1 : Nat) (l0_1 : List Int) (a0_2 : Int) (r : Int) (w : World) (hr0_1 : Kd.C (Kd.int .u32) w A0_1 l0_1.length l0_1) (hc0_1 : l0_1.length ≤ c0_1) (h : dyad_Sign.f k a0_0 l0_1 a0_2 = some r) :
  Calls Tryz.prog 51 #[.agg #[.bool a0_0, .slice A0_1 l0_1.length c0_1, .int .i64 a0_2]] w fun e w' => e = .returned (.int .i64 r) ∧ Below w.heap.size w w' := by
 have hu60 := Tryz.underlying60
 have HR0_1 := asd hr0_1
 have HC0_1 := asd hc0_1
 clear hr0_1 hc0_1
 have HB := asd (Below.refl w.heap.size w)
 have H := h
 clear h
 unfold dyad_Sign.f at H
 have HC2 := asd H
 clear H
 go_enter Tryz.func51, Tryz.ntmps51
 go_upto_region 1 with (first | ((with_reducible refine gate_dst (N := 1) rfl ?_); (try (refine gate_guard (by rfl) ?_; dsimp only)); refine box_ev (w := w) ?hg (N := 1) ?hd hbw (cs := #[.bool a0_0, .slice A0_1 l0_1.length c0_1, .int .i64 a0_2]) (t := 60) ?hr ?_; (case hd => rfl); (case hg => rfl); (case hr => first | (go_simp; done) | (go_simp; rfl)); clear HB; intro gb111 w3 HB BK111 GW111; have GE111 := GW111))
 (try simp only [Act.put, List.setIfInBounds_toArray, List.set_cons_zero, List.set_cons_succ])
 go_cut [3] (fun v3 wc => ∃ (kq : Nat) (x3_1 : Bool), v3 = .bool x3_1 ∧ Aside0 (dyad_Sign.j0 kq x3_1 a0_0 l0_1 a0_2 = some r) ∧ Aside0 (kq ≤ k) ∧ Aside0 (wc.heap[gb111]? = some (.cells #[.bool a0_0, (.slice A0_1 l0_1.length c0_1), .int .i64 a0_2] 60 (0, 0))) ∧ Aside0 (Below w.heap.size w wc))
 case first =>
  have H := HC2.out
  clear HC2
  replace H := Option.bind_eq_some_iff.mp H
  obtain ⟨t112, A40, H⟩ := H
  have A4 := asd A40
  clear A40
  by_cases c5 : t112 = true
  ·subst c5
   rw [if_pos rfl] at H
   have H' := asd H
   clear H
   obtain ⟨hcz6_0, hcz6_1, hcz6_2, hfz6_0, hfz6_1, hfz6_2⟩ := cz3 BK111.out
   go_wp2_with (first | ((with_reducible refine gate_callee (f := 91) rfl ?_); refine goesL_ (some 5) rfl rfl Tryz.func91 (by kernel_rfl) rfl #[.agg #[.bool a0_0, .slice A0_1 l0_1.length c0_1, .int .i64 a0_2]] rfl eqA ?_; (with_reducible refine (dyad_Valid.calls a0_0 _ _ l0_1 a0_2 true _ ?side1 ?side2 A4.out).mono ?_); (case side1 => repeat (first | exact (Kd.C_below HR0_1.out HB.out) | (with_reducible refine Kd.C_alloc ?_ _) | (with_reducible refine Kd.C_drewN ?_ _) | (with_reducible refine Kd.C_drew ?_))); (case side2 => exact HC0_1.out); rintro e w7 ⟨rfl, hb⟩; refine ⟨_, rfl, ?_⟩; have n0_ := asd (blk_below (g := gb111) (o := .cells #[.bool a0_0, .slice A0_1 l0_1.length c0_1, .int .i64 a0_2] 60 (0, 0)) (blkU BK111.out) hb); have n1_ := asd (below_step hbs hb); clear BK111; clear HB; have BK111 := n0_; have HB := n1_; clear n0_ n1_; (try clear hb); obtain ⟨hcz8_0, hcz8_1, hcz8_2, hfz8_0, hfz8_1, hfz8_2⟩ := cz3 BK111.out))
   go_meet
   case rel => exact ⟨_, (((l0_1.length : Int) == 0)), eqB, H', ⟨by first | omega | exact Nat.le_refl _⟩, ⟨by (with_reducible repeat (first | refine blk_drewN ?_ _ | refine blk_drew ?_ | refine blk_alloc ?_ _)); exact BK111.out⟩, ⟨hbs⟩⟩
  ·replace c5 := Bool.eq_false_iff.mpr c5
   subst c5
   rw [if_neg (show ¬ (false = true) by decide)] at H
   have H' := asd H
   clear H
   obtain ⟨hcz9_0, hcz9_1, hcz9_2, hfz9_0, hfz9_1, hfz9_2⟩ := cz3 BK111.out
   go_wp2_with (first | ((with_reducible refine gate_callee (f := 91) rfl ?_); refine goesL_ (some 5) rfl rfl Tryz.func91 (by kernel_rfl) rfl #[.agg #[.bool a0_0, .slice A0_1 l0_1.length c0_1, .int .i64 a0_2]] rfl eqA ?_; (with_reducible refine (dyad_Valid.calls a0_0 _ _ l0_1 a0_2 false _ ?side1 ?side2 A4.out).mono ?_); (case side1 => repeat (first | exact (Kd.C_below HR0_1.out HB.out) | (with_reducible refine Kd.C_alloc ?_ _) | (with_reducible refine Kd.C_drewN ?_ _) | (with_reducible refine Kd.C_drew ?_))); (case side2 => exact HC0_1.out); rintro e w10 ⟨rfl, hb⟩; refine ⟨_, rfl, ?_⟩; have n0_ := asd (blk_below (g := gb111) (o := .cells #[.bool a0_0, .slice A0_1 l0_1.length c0_1, .int .i64 a0_2] 60 (0, 0)) (blkU BK111.out) hb); have n1_ := asd (below_step hbs hb); clear BK111; clear HB; have BK111 := n0_; have HB := n1_; clear n0_ n1_; (try clear hb)))
   go_meet
   case rel => exact ⟨_, (true), eqB, H', ⟨by first | omega | exact Nat.le_refl _⟩, ⟨by (with_reducible repeat (first | refine blk_drewN ?_ _ | refine blk_drew ?_ | refine blk_alloc ?_ _)); exact BK111.out⟩, ⟨hbs⟩⟩
 case rest =>
  clear HC2
  try clear p2
  try clear c5
  try clear c9
  try clear hcz6_0
  try clear hcz6_1
  try clear hcz6_2
  try clear hcz8_0
  try clear hcz8_1
  try clear hcz8_2
  try clear hcz9_0
  try clear hcz9_1
  try clear hcz9_2
  try clear hfz6_0
  try clear hfz6_1
  try clear hfz6_2
  try clear hfz8_0
  try clear hfz8_1
  try clear hfz8_2
  try clear hfz9_0
  try clear hfz9_1
  try clear hfz9_2
  obtain ⟨kq, x3_1, rfl, HA, HJ1, BK111, HB⟩ := hcut
  cases kq with
  | zero => exact absurd HA.out (by simp [dyad_Sign.j0])
  | succ kj1 =>
   have H := HA.out
   clear HA
   simp only [dyad_Sign.j0] at H
   by_cases c11 : x3_1 = true
   ·subst c11
    rw [if_pos rfl] at H
    obtain rfl := Option.some.inj H
    go_wp2
    go_ret
    exact ⟨eqC, hbs⟩
   ·replace c11 := Bool.eq_false_iff.mpr c11
    subst c11
    rw [if_neg (show ¬ (false = true) by decide)] at H
    by_cases c12 : a0_0 = true
    ·subst c12
     rw [if_pos rfl] at H
     obtain rfl := Option.some.inj H
     obtain ⟨hcz13_0, hcz13_1, hcz13_2, hfz13_0, hfz13_1, hfz13_2⟩ := cz3 BK111.out
     go_wp2
     go_ret
     exact ⟨eqC, hbs⟩
    ·replace c12 := Bool.eq_false_iff.mpr c12
     subst c12
     rw [if_neg (show ¬ (false = true) by decide)] at H
     obtain rfl := Option.some.inj H
     obtain ⟨hcz14_0, hcz14_1, hcz14_2, hfz14_0, hfz14_1, hfz14_2⟩ := cz3 BK111.out
     go_wp2
     go_ret
     exact ⟨eqC, hbs⟩
end Go.Proofs.YthmeocigliephaaGreatDoor.PSu
end
section
namespace Go.Proofs.YthmeocigliephaaGreatDoor.PSu
attribute [local go_sem] neg_float f64bits_run f64from_run run_float_some max2_int min2_int max_two min_two max_three min_three max_four min_four
def round_to.f (a0_0 : Bool) (l0_1 : List Int) (a0_2 : Int) (a1 : Int) : Option (Nat) := (dyad_Round.f a0_0 l0_1 a0_2 a1).bind fun bt130 => (some bt130.1)
theorem round_to.calls (a0_0 : Bool) (A0_1 : Option Addr) (c0_1 : Nat) (l0_1 : List Int) (a0_2 : Int) (a1 : Int) (r : Nat) (w : World) (hr0_1 : Kd.C (Kd.int .u32) w A0_1 l0_1.length l0_1) (hc0_1 : l0_1.length ≤ c0_1) (h : round_to.f a0_0 l0_1 a0_2 a1 = some r) :
  Calls Tryz.prog 117 #[.agg #[.bool a0_0, .slice A0_1 l0_1.length c0_1, .int .i64 a0_2], .int .i64 a1] w fun e w' => e = .returned (.float .f64 r) ∧ Below w.heap.size w w' := by
 have hu60 := Tryz.underlying60
 have HR0_1 := asd hr0_1
 have HC0_1 := asd hc0_1
 clear hr0_1 hc0_1
 have HB := asd (Below.refl w.heap.size w)
 have H := h
 clear h
 unfold round_to.f at H
 replace H := Option.bind_eq_some_iff.mp H
 obtain ⟨⟨t130, t131⟩, A30, H⟩ := H
 replace H : (some t130) = some r := H
 have A3 := asd A30
 clear A30
 obtain rfl := Option.some.inj H
 go_enter Tryz.func117, Tryz.ntmps117
 go_wp2_with (first | ((with_reducible refine gate_dst (N := 2) rfl ?_); refine box_ev (w := w) ?hg (N := 2) ?hd hbw (cs := #[.bool a0_0, .slice A0_1 l0_1.length c0_1, .int .i64 a0_2]) (t := 60) ?hr ?_; (case hd => rfl); (case hg => rfl); (case hr => first | (go_simp; done) | (go_simp; rfl)); clear HB; intro gb129 w4 HB BK129 GW129; have GE129 := GW129; obtain ⟨hcz5_0, hcz5_1, hcz5_2, hfz5_0, hfz5_1, hfz5_2⟩ := cz3 BK129.out) | ((with_reducible refine gate_callee (f := 47) rfl ?_); refine goesL_ (some 10) rfl rfl Tryz.func47 (by kernel_rfl) rfl #[.agg #[.bool a0_0, .slice A0_1 l0_1.length c0_1, .int .i64 a0_2], .int .i64 a1] rfl eqA ?_; (with_reducible refine (dyad_Round.calls a0_0 _ _ l0_1 a0_2 a1 t130 t131 _ ?side1 ?side2 A3.out).mono ?_); (case side1 => repeat (first | exact (Kd.C_below HR0_1.out HB.out) | (with_reducible refine Kd.C_alloc ?_ _) | (with_reducible refine Kd.C_drewN ?_ _) | (with_reducible refine Kd.C_drew ?_))); (case side2 => exact HC0_1.out); rintro e w6 ⟨rfl, hb⟩; refine ⟨_, rfl, ?_⟩; have n0_ := asd (blk_below (g := gb129) (o := .cells #[.bool a0_0, .slice A0_1 l0_1.length c0_1, .int .i64 a0_2] 60 (0, 0)) (blkU BK129.out) hb); have n1_ := asd (below_step hbs hb); clear BK129; clear HB; have BK129 := n0_; have HB := n1_; clear n0_ n1_; (try clear hb)))
 go_ret
 exact ⟨eqC, hbs⟩
def round_Add.j0 : Nat → Nat → Nat → Int → Bool → Option (Nat)
 | 0, _, _, _, _ => none
 | k + 1, x0, x1, x2, x9 => if x9 = true then ((math_NaN.f).bind fun t133 => (some t133)) else ((round_infinite.f x0).bind fun t134 => (if t134 = true then (if ((floatBits .add .f64 x0 x1).isSome) = true then (some ((floatBits .add .f64 x0 x1).getD 0)) else (none)) else ((round_infinite.f x1).bind fun t135 => (if t135 = true then (if ((floatBits .add .f64 x0 x1).isSome) = true then (some ((floatBits .add .f64 x0 x1).getD 0)) else (none)) else ((round_num.f x0).bind fun bt136 => ((round_num.f x1).bind fun bt141 => ((dyad_Add.f bt136.1 bt136.2.1 bt136.2.2 bt141.1 bt141.2.1 bt141.2.2).bind fun bt146 => ((dyad_Sign.f k bt146.1 bt146.2.1 bt146.2.2.1).bind fun t153 => (if t153 = 0 then ((round_nought.f k x0 x1 x2).bind fun t154 => (some t154)) else ((round_to.f bt146.1 bt146.2.1 bt146.2.2.1 x2).bind fun t155 => (some t155)))))))))))
def round_Add.f (k : Nat) (a0 : Nat) (a1 : Nat) (a2 : Int) : Option (Nat) := (round_Valid.f a2).bind fun t132 => (if t132 = 0 then (if ((FloatKind.f64.format.order a0 a0) != some .eq) = true then (round_Add.j0 k a0 a1 a2 true) else (round_Add.j0 k a0 a1 a2 ((FloatKind.f64.format.order a1 a1) != some .eq))) else (round_Add.j0 k a0 a1 a2 true))
def sums_near.f (k : Nat) (a0 : Nat) (a1 : Nat) : Option (Nat) := (round_Add.f k a0 a1 2).bind fun t156 => (some t156)
def sums_Row.l0 : Nat → Nat → List Nat → Int → Int → Option (Nat)
 | 0, _, _, _, _ => none
 | k + 1, x3, x13, x14, x15 => if x15 < x14 then (if 0 ≤ x15 then (if x15 < (x13.length : Int) then ((sums_near.f k x3 (rdOf (0 : Nat) x13 x15)).bind fun t160 => (sums_Row.l0 k t160 x13 x14 (wrap64 (x15 + 1)))) else (none)) else (none)) else (some x3)
def sums_Row.f (k : Nat) (l0 : List Nat) : Option (Nat) := if (l0.length : Int) = 0 then (some (0 : Nat)) else (if 0 < (l0.length : Int) then (if 1 ≤ (l0.length : Int) then (sums_Row.l0 k (rdOf (0 : Nat) l0 0) (l0.drop 1) ((l0.drop 1).length : Int) 0) else (none)) else (none))
def sums_Kept.l0 : Nat → Nat → Nat → List Nat → Int → Int → Option (Nat)
 | 0, _, _, _, _, _ => none
 | k + 1, x3, x4, x8, x9, x10 => if x10 < x9 then (if 0 ≤ x10 then (if x10 < (x8.length : Int) then ((sums_near.f k x3 (rdOf (0 : Nat) x8 x10)).bind fun t163 => ((math_Abs.f x3).bind fun t164 => ((math_Abs.f (rdOf (0 : Nat) x8 x10)).bind fun t165 => (if ((FloatKind.f64.format.order t164 t165) == some .gt || (FloatKind.f64.format.order t164 t165) == some .eq) = true then ((sums_near.f k x3 (Op.negFloat .f64 t163)).bind fun t166 => ((sums_near.f k t166 (rdOf (0 : Nat) x8 x10)).bind fun t167 => ((sums_near.f k x4 t167).bind fun t168 => (sums_Kept.l0 k t163 t168 x8 x9 (wrap64 (x10 + 1)))))) else ((sums_near.f k (rdOf (0 : Nat) x8 x10) (Op.negFloat .f64 t163)).bind fun t169 => ((sums_near.f k t169 x3).bind fun t170 => ((sums_near.f k x4 t170).bind fun t171 => (sums_Kept.l0 k t163 t171 x8 x9 (wrap64 (x10 + 1)))))))))) else (none)) else (none)) else ((sums_near.f k x3 x4).bind fun t161 => (some t161))
def sums_Kept.f (k : Nat) (l0 : List Nat) : Option (Nat) := sums_Kept.l0 k (0 : Nat) (0 : Nat) l0 (l0.length : Int) 0
end Go.Proofs.YthmeocigliephaaGreatDoor.PSu
end
section
namespace Go.Proofs.YthmeocigliephaaGreatDoor.PSu
attribute [local go_sem] f64bits_run f64from_run run_float_some max2_int min2_int max_two min_two max_three min_three max_four min_four
def sums_Halves.f : Nat → List Nat → Option (Nat)
 | 0, _ => none
 | k + 1, l0 => if (l0.length : Int) = 0 then (some (0 : Nat)) else (if (l0.length : Int) = 1 then (if 0 < (l0.length : Int) then (some (rdOf (0 : Nat) l0 0)) else (none)) else (if 0 ≤ (wrap64 ((l0.length : Int) / 2)) then (if (wrap64 ((l0.length : Int) / 2)) ≤ (l0.length : Int) then ((sums_Halves.f k (l0.take ((wrap64 ((l0.length : Int) / 2)) : Int).toNat)).bind fun t174 => ((sums_Halves.f k (l0.drop ((wrap64 ((l0.length : Int) / 2)) : Int).toNat)).bind fun t176 => ((sums_near.f k t174 t176).bind fun t177 => (some t177)))) else (none)) else (none)))
def dyad_valid.l0 : Nat → List (S60) → Int → Int → Option (Bool)
 | 0, _, _, _ => none
 | k + 1, x5, x6, x7 => if x7 < x6 then (if 0 ≤ x7 then (if x7 < (x5.length : Int) then ((dyad_Valid.f ((rd_T60 x5 x7).f0) ((rd_T60 x5 x7).f1) ((rd_T60 x5 x7).f2)).bind fun t180 => (if t180 = true then (dyad_valid.l0 k x5 x6 (wrap64 (x7 + 1))) else (some false))) else (none)) else (none)) else (some true)
def dyad_valid.f (k : Nat) (l0 : List (S60)) : Option (Bool) := dyad_valid.l0 k l0 (l0.length : Int) 0
theorem dyad_valid.calls (k : Nat) (A0 : Option Addr) (c0 : Nat) (l0 : List (S60)) (r : Bool) (w : World) (hr0 : Kd.C k60 w A0 l0.length l0) (hc0 : l0.length ≤ c0) (h : dyad_valid.f k l0 = some r) :
  Calls Tryz.prog 88 #[.slice A0 l0.length c0] w fun e w' => e = .returned (.bool r) ∧ Below w.heap.size w w' := by
 have hu60 := Tryz.underlying60
 have HR0 := asd hr0
 have HC0 := asd hc0
 clear hr0 hc0
 have HB := asd (Below.refl w.heap.size w)
 have H := h
 clear h
 unfold dyad_valid.f at H
 have H' := asd H
 clear H
 go_enter Tryz.func88, Tryz.ntmps88
 go_wp2
 go_loopg [7] k (fun kq v7 w' => ∃ (x7_1 : Int), v7 = .int .i64 x7_1 ∧ Aside0 (dyad_valid.l0 kq l0 (l0.length : Int) x7_1 = some r) ∧ Aside0 (kq ≤ k) ∧ Aside0 (Below w.heap.size w w'))
 case atStart => exact ⟨(0), eqB, H', ⟨Nat.le_refl _⟩, ⟨hbw⟩⟩
 case round =>
  clear H'
  obtain ⟨x7_1, rfl, HA, HK1, HB⟩ := hrel
  cases gk with
  | zero => exact absurd HA.out (by simp [dyad_valid.l0])
  | succ k1 =>
   have H := HA.out
   clear HA
   simp only [dyad_valid.l0] at H
   by_cases c2 : x7_1 < (l0.length : Int)
   ·rw [if_pos c2] at H
    have c2b0 := decide_eq_true c2
    clear c2
    by_cases c3 : 0 ≤ x7_1
    ·rw [if_pos c3] at H
     have c3b0 := decide_eq_true c3
     clear c3
     by_cases c4 : x7_1 < (l0.length : Int)
     ·rw [if_pos c4] at H
      have c4b0 := decide_eq_true c4
      clear c4
      replace H := Option.bind_eq_some_iff.mp H
      obtain ⟨t180, A50, H⟩ := H
      have A5 := asd A50
      clear A50
      by_cases c6 : t180 = true
      ·subst c6
       rw [if_pos rfl] at H
       have H' := asd H
       clear H
       have p178 : 0 ≤ (x7_1 : Int) := odt
       have q178 : x7_1 < (l0.length : Int) := odt
       obtain ⟨ad178, A178_1, c178_1, e178, hx178_0, hx178_1, hx178_2, hl178_1, hi178_1⟩ := at_T60 HR0.out x7_1 p178 q178
       cases e178
       replace hx178_0 := (HB.out.cell (World.block_lt_of_cell? w _ hx178_0)).trans hx178_0
       replace hx178_1 := (HB.out.cell (World.block_lt_of_cell? w _ hx178_1)).trans hx178_1
       replace hx178_2 := (HB.out.cell (World.block_lt_of_cell? w _ hx178_2)).trans hx178_2
       have HR178_1 := asd hi178_1
       have HC178_1 := asd hl178_1
       clear hi178_1 hl178_1
       replace p178 := eq_true p178
       replace q178 := eq_true q178
       go_wp2_with (first | ((with_reducible refine gate_dst (N := 4) rfl ?_); refine box_ev (w := w) ?hg (N := 4) ?hd hbw (cs := #[.bool false, .slice none 0 0, .int .i64 0]) (t := 60) ?hr ?_; (case hd => rfl); (case hg => rfl); (case hr => first | (go_simp; done) | (go_simp; rfl)); clear HB; intro gb179 w7 HB BK179 GW179; have GE179 := GW179; obtain ⟨hcz8_0, hcz8_1, hcz8_2, hfz8_0, hfz8_1, hfz8_2⟩ := cz3 BK179.out) | ((with_reducible refine gate_callee (f := 91) rfl ?_); refine goesL_ (some 12) rfl rfl Tryz.func91 (by kernel_rfl) rfl #[.agg #[.bool ((rd_T60 l0 x7_1).f0), .slice A178_1 ((rd_T60 l0 x7_1).f1).length c178_1, .int .i64 ((rd_T60 l0 x7_1).f2)]] rfl eqA ?_; (with_reducible refine (dyad_Valid.calls ((rd_T60 l0 x7_1).f0) _ _ ((rd_T60 l0 x7_1).f1) ((rd_T60 l0 x7_1).f2) true _ ?side1 ?side2 A5.out).mono ?_); (case side1 => exact Kd.C_below HR178_1.out hbs); (case side2 => exact HC178_1.out); rintro e w9 ⟨rfl, hb⟩; refine ⟨_, rfl, ?_⟩; have n0_ := asd (blk_below (g := gb179) (o := .cells #[.bool ((rd_T60 l0 x7_1).f0), .slice A178_1 ((rd_T60 l0 x7_1).f1).length c178_1, .int .i64 ((rd_T60 l0 x7_1).f2)] 60 (0, 0)) (by (with_reducible repeat (first | refine blk_drewN ?_ _ | refine blk_drew ?_ | refine blk_alloc ?_ _)); refine blk_put (cs := #[.bool ((rd_T60 l0 x7_1).f0), .slice A178_1 ((rd_T60 l0 x7_1).f1).length c178_1, .int .i64 0]) ?_ 2 _ rfl; (with_reducible repeat (first | refine blk_drewN ?_ _ | refine blk_drew ?_ | refine blk_alloc ?_ _)); refine blk_put (cs := #[.bool ((rd_T60 l0 x7_1).f0), .slice none 0 0, .int .i64 0]) ?_ 1 _ rfl; (with_reducible repeat (first | refine blk_drewN ?_ _ | refine blk_drew ?_ | refine blk_alloc ?_ _)); refine blk_put (cs := #[.bool false, .slice none 0 0, .int .i64 0]) ?_ 0 _ rfl; (with_reducible repeat (first | refine blk_drewN ?_ _ | refine blk_drew ?_ | refine blk_alloc ?_ _)); exact BK179.out) hb); have n1_ := asd (below_step hbs hb); clear BK179; clear HB; have BK179 := n0_; have HB := n1_; clear n0_ n1_; (try clear hb)))
       go_roundg k1
       case measure => have := HK1.out; omega
       case rel => exact ⟨(wrap64 (x7_1 + 1)), eqB, H', ⟨by have := HK1.out; omega⟩, ⟨hbs⟩⟩
      ·replace c6 := Bool.eq_false_iff.mpr c6
       subst c6
       rw [if_neg (show ¬ (false = true) by decide)] at H
       obtain rfl := Option.some.inj H
       have p178 : 0 ≤ (x7_1 : Int) := odt
       have q178 : x7_1 < (l0.length : Int) := odt
       obtain ⟨ad178, A178_1, c178_1, e178, hx178_0, hx178_1, hx178_2, hl178_1, hi178_1⟩ := at_T60 HR0.out x7_1 p178 q178
       cases e178
       replace hx178_0 := (HB.out.cell (World.block_lt_of_cell? w _ hx178_0)).trans hx178_0
       replace hx178_1 := (HB.out.cell (World.block_lt_of_cell? w _ hx178_1)).trans hx178_1
       replace hx178_2 := (HB.out.cell (World.block_lt_of_cell? w _ hx178_2)).trans hx178_2
       have HR178_1 := asd hi178_1
       have HC178_1 := asd hl178_1
       clear hi178_1 hl178_1
       replace p178 := eq_true p178
       replace q178 := eq_true q178
       go_wp2_with (first | ((with_reducible refine gate_dst (N := 4) rfl ?_); refine box_ev (w := w) ?hg (N := 4) ?hd hbw (cs := #[.bool false, .slice none 0 0, .int .i64 0]) (t := 60) ?hr ?_; (case hd => rfl); (case hg => rfl); (case hr => first | (go_simp; done) | (go_simp; rfl)); clear HB; intro gb179 w10 HB BK179 GW179; have GE179 := GW179; obtain ⟨hcz11_0, hcz11_1, hcz11_2, hfz11_0, hfz11_1, hfz11_2⟩ := cz3 BK179.out) | ((with_reducible refine gate_callee (f := 91) rfl ?_); refine goesL_ (some 12) rfl rfl Tryz.func91 (by kernel_rfl) rfl #[.agg #[.bool ((rd_T60 l0 x7_1).f0), .slice A178_1 ((rd_T60 l0 x7_1).f1).length c178_1, .int .i64 ((rd_T60 l0 x7_1).f2)]] rfl eqA ?_; (with_reducible refine (dyad_Valid.calls ((rd_T60 l0 x7_1).f0) _ _ ((rd_T60 l0 x7_1).f1) ((rd_T60 l0 x7_1).f2) false _ ?side1 ?side2 A5.out).mono ?_); (case side1 => exact Kd.C_below HR178_1.out hbs); (case side2 => exact HC178_1.out); rintro e w12 ⟨rfl, hb⟩; refine ⟨_, rfl, ?_⟩; have n0_ := asd (blk_below (g := gb179) (o := .cells #[.bool ((rd_T60 l0 x7_1).f0), .slice A178_1 ((rd_T60 l0 x7_1).f1).length c178_1, .int .i64 ((rd_T60 l0 x7_1).f2)] 60 (0, 0)) (by (with_reducible repeat (first | refine blk_drewN ?_ _ | refine blk_drew ?_ | refine blk_alloc ?_ _)); refine blk_put (cs := #[.bool ((rd_T60 l0 x7_1).f0), .slice A178_1 ((rd_T60 l0 x7_1).f1).length c178_1, .int .i64 0]) ?_ 2 _ rfl; (with_reducible repeat (first | refine blk_drewN ?_ _ | refine blk_drew ?_ | refine blk_alloc ?_ _)); refine blk_put (cs := #[.bool ((rd_T60 l0 x7_1).f0), .slice none 0 0, .int .i64 0]) ?_ 1 _ rfl; (with_reducible repeat (first | refine blk_drewN ?_ _ | refine blk_drew ?_ | refine blk_alloc ?_ _)); refine blk_put (cs := #[.bool false, .slice none 0 0, .int .i64 0]) ?_ 0 _ rfl; (with_reducible repeat (first | refine blk_drewN ?_ _ | refine blk_drew ?_ | refine blk_alloc ?_ _)); exact BK179.out) hb); have n1_ := asd (below_step hbs hb); clear BK179; clear HB; have BK179 := n0_; have HB := n1_; clear n0_ n1_; (try clear hb)))
       go_ret
       exact ⟨eqC, hbs⟩
     ·rw [if_neg c4] at H
      exact absurd H (by simp)
    ·rw [if_neg c3] at H
     exact absurd H (by simp)
   ·rw [if_neg c2] at H
    have c2b0 := decide_eq_false c2
    clear c2
    obtain rfl := Option.some.inj H
    go_wp2
    go_ret
    exact ⟨eqC, hbw⟩
def dyad_Neg.f (a0_0 : Bool) (l0_1 : List Int) (a0_2 : Int) : Option (Bool × List Int × Int) := (dyad_Valid.f a0_0 l0_1 a0_2).bind fun t183 => (if t183 = true then (if (l0_1.length : Int) = 0 then (some (false, ([] : List Int), 0)) else ((some (([] : List Int) : List Int)).bind fun y184 => (if y184.length + l0_1.length < 35184372088832 then (some (!a0_0, (y184 ++ l0_1), a0_2)) else (none)))) else (some (false, ([] : List Int), 0)))
def dyad_Neg.T3 : Bool × List (List Nat × List Nat) := (true, [([], []), ([0], [0]), ([1], [1]), ([], []), ([], []), ([4], [4]), ([3, 5], [3, 5]), ([], []), ([7], [7]), ([2, 6, 8], [2, 6, 8]), ([9, 6, 0, 1, 2, 3, 4, 5, 6, 7, 8, 9], [9])])
def dyad_Neg.B3 : List Nat := [0, 1, 3, 0, 0, 16, 56, 0, 128, 511, 1023]
theorem dyad_Neg.tab3 : rtab .any (opsOf Tryz.f89 3) = dyad_Neg.T3 := by kernel_rfl
theorem dyad_Neg.bits3 : waitsOk dyad_Neg.T3.2 dyad_Neg.B3 = true := by kernel_rfl
theorem dyad_Neg.calls (a0_0 : Bool) (A0_1 : Option Addr) (c0_1 : Nat) (l0_1 : List Int) (a0_2 : Int) (r1 : Bool) (r2 : List Int) (r3 : Int) (w : World) (hr0_1 : Kd.C (Kd.int .u32) w A0_1 l0_1.length l0_1) (hc0_1 : l0_1.length ≤ c0_1) (h : dyad_Neg.f a0_0 l0_1 a0_2 = some (r1, r2, r3)) :
  Calls Tryz.prog 89 #[.agg #[.bool a0_0, .slice A0_1 l0_1.length c0_1, .int .i64 a0_2]] w fun e w' => ∃ v1_ : Value, e = .returned (.agg #[.bool r1, v1_, .int .i64 r3]) ∧ Kd.R (Kd.int .u32) 83 w' w.heap.size (fun _ => True) v1_ r2 ∧ Below w.heap.size w w' := by
 have hu60 := Tryz.underlying60
 have HR0_1 := asd hr0_1
 have HC0_1 := asd hc0_1
 clear hr0_1 hc0_1
 have HB := asd (Below.refl w.heap.size w)
 have H := h
 clear h
 unfold dyad_Neg.f at H
 replace H := Option.bind_eq_some_iff.mp H
 obtain ⟨t183, A20, H⟩ := H
 have A2 := asd A20
 clear A20
 by_cases c3 : t183 = true
 ·subst c3
  rw [if_pos rfl] at H
  by_cases c4 : (l0_1.length : Int) = 0
  ·rw [if_pos c4] at H
   have c4b0 := beq_iff_eq.mpr c4
   have c4b1 := bne_eq_false_iff_eq.mpr c4
   clear c4
   simp only [Option.some.injEq, Prod.mk.injEq] at H
   obtain ⟨rfl, rfl, rfl⟩ := H
   go_enter Tryz.func89, Tryz.ntmps89
   go_wp2_with (first | ((with_reducible refine gate_dst (N := 1) rfl ?_); (try (refine gate_guard (by rfl) ?_; dsimp only)); refine box_ev (w := w) ?hg (N := 1) ?hd hbw (cs := #[.bool a0_0, .slice A0_1 l0_1.length c0_1, .int .i64 a0_2]) (t := 60) ?hr ?_; (case hd => rfl); (case hg => rfl); (case hr => first | (go_simp; done) | (go_simp; rfl)); clear HB; intro gb181 w5 HB BK181 GW181; have GE181 := GW181) | ((with_reducible refine gate_dst (N := 2) rfl ?_); (try (refine gate_guard (by rfl) ?_; dsimp only)); refine box_event ?hg (N := 2) ?hd (cs := #[.bool false, .slice none 0 0, .int .i64 0]) (t := 60) ?hr ?_; (case hd => rfl); (case hg => rfl); (case hr => first | (go_simp; done) | (go_simp; rfl)); intro gb182 hg w6 hbox hb; have n0_ := asd (blk_below (g := gb181) (o := .cells #[.bool a0_0, .slice A0_1 l0_1.length c0_1, .int .i64 a0_2] 60 (0, 0)) (blkU BK181.out) hb); have n1_ := asd (below_step hbs hb); have n2_ := asd (hbox); have n3_ := asd ((by rw [hg]; exact (below_size hbs) : w.heap.size ≤ gb182)); have n4_ := asd ((by rw [hg]; exact (below_size hbs) : w.heap.size ≤ gb182)); have n5_ := asd ((by rw [hg]; exact Nat.ne_of_lt (blk_lt (g := gb181) (o := .cells #[.bool a0_0, .slice A0_1 l0_1.length c0_1, .int .i64 a0_2] 60 (0, 0)) (blkU BK181.out)) : gb181 ≠ gb182)); have n6_ := asd ((by rw [hg]; exact Nat.ne_of_gt (blk_lt (g := gb181) (o := .cells #[.bool a0_0, .slice A0_1 l0_1.length c0_1, .int .i64 a0_2] 60 (0, 0)) (blkU BK181.out)) : gb182 ≠ gb181)); clear BK181; clear HB; have BK181 := n0_; have HB := n1_; have BK182 := n2_; have GW182 := n3_; have GE182 := n4_; have NB181_182 := n5_; have NB182_181 := n6_; clear n0_ n1_ n2_ n3_ n4_ n5_ n6_; clear hb hbox hg; have hnb7 := NB181_182.out; have hnc7 := NB182_181.out; obtain ⟨hcz8_0, hcz8_1, hcz8_2, hfz8_0, hfz8_1, hfz8_2⟩ := cz3 BK181.out) | ((with_reducible refine gate_callee (f := 91) rfl ?_); refine goesL_ (some 4) rfl rfl Tryz.func91 (by kernel_rfl) rfl #[.agg #[.bool a0_0, .slice A0_1 l0_1.length c0_1, .int .i64 a0_2]] rfl eqA ?_; (with_reducible refine (dyad_Valid.calls a0_0 _ _ l0_1 a0_2 true _ ?side1 ?side2 A2.out).mono ?_); (case side1 => repeat (first | exact (Kd.C_below HR0_1.out HB.out) | (with_reducible refine Kd.C_alloc ?_ _) | (with_reducible refine Kd.C_drewN ?_ _) | (with_reducible refine Kd.C_drew ?_))); (case side2 => exact HC0_1.out); rintro e w9 ⟨rfl, hb⟩; refine ⟨_, rfl, ?_⟩; have n0_ := asd (blk_below (g := gb181) (o := .cells #[.bool a0_0, .slice A0_1 l0_1.length c0_1, .int .i64 a0_2] 60 (0, 0)) (blkU BK181.out) hb); have n1_ := asd (blk_below (g := gb182) (o := .cells #[.bool false, .slice none 0 0, .int .i64 0] 60 (0, 0)) (blkU BK182.out) hb); have n2_ := asd (below_step hbs hb); clear BK181; clear BK182; clear HB; have BK181 := n0_; have BK182 := n1_; have HB := n2_; clear n0_ n1_ n2_; (try clear hb); obtain ⟨hcz10_0, hcz10_1, hcz10_2, hfz10_0, hfz10_1, hfz10_2⟩ := cz3 BK181.out; obtain ⟨hcz11_0, hcz11_1, hcz11_2, hfz11_0, hfz11_1, hfz11_2⟩ := cz3 BK182.out))
   refine bodyPost_ret (results_cell_row rfl _ _ gb182 60 #[.bool false, .slice none 0 0, .int .i64 0] (0, 0) _ rfl (by (with_reducible repeat (first | refine blk_drewN ?_ _ | refine blk_drew ?_ | refine blk_alloc ?_ _)); refine blk_put (cs := #[.bool false, .slice none 0 0, .int .i64 0]) ?_ 2 _ rfl; (with_reducible repeat (first | refine blk_drewN ?_ _ | refine blk_drew ?_ | refine blk_alloc ?_ _)); refine blk_put (cs := #[.bool false, .slice none 0 0, .int .i64 0]) ?_ 1 _ rfl; (with_reducible repeat (first | refine blk_drewN ?_ _ | refine blk_drew ?_ | refine blk_alloc ?_ _)); refine blk_put (cs := #[.bool false, .slice none 0 0, .int .i64 0]) ?_ 0 _ rfl; (with_reducible repeat (first | refine blk_drewN ?_ _ | refine blk_drew ?_ | refine blk_alloc ?_ _)); exact BK182.out) Tryz.underlying60 rfl (by kernel_rfl)) rfl ?_
   exact ⟨_, eqC, by first | exact Kd.R_nil _ _ _ _ _ | exact Kd.N_nil _ _ _ _ _ | exact Kd.V_nil _ _ _ _ _ | exact Kd.Q_nil _ _ _ _ _ | exact Kd.S_nil _ _ _ _ _, hbs⟩
  ·rw [if_neg c4] at H
   have c4b0 := beq_eq_false_iff_ne.mpr c4
   have c4b1 := bne_iff_ne.mpr c4
   have c4b2 : ¬ (l0_1 = []) := fun h_ => c4 (by rw [h_]; rfl)
   obtain ⟨y184, hy184⟩ : ∃ y_ : List Int, y_ = (([] : List Int)) := ⟨_, rfl⟩
   try rw [Option.bind_some] at H
   try rw [← hy184] at H
   have Ny184 := asd hy184
   clear hy184
   by_cases c12 : y184.length + l0_1.length < 35184372088832
   ·rw [if_pos c12] at H
    have LMc12 := asd c12
    clear c12
    obtain ⟨y187, hy187⟩ : ∃ y_ : List Int, y_ = (y184 ++ l0_1) := ⟨_, rfl⟩
    try rw [Option.bind_some] at H
    try rw [← hy187] at H
    have Ny187 := asd hy187
    clear hy187
    simp only [Option.some.injEq, Prod.mk.injEq] at H
    obtain ⟨rfl, rfl, rfl⟩ := H
    go_enter Tryz.func89, Tryz.ntmps89
    try go_wp2_with (first | ((with_reducible refine gate_dst (N := 1) rfl ?_); (try (refine gate_guard (by rfl) ?_; dsimp only)); refine box_ev (w := w) ?hg (N := 1) ?hd hbw (cs := #[.bool a0_0, .slice A0_1 l0_1.length c0_1, .int .i64 a0_2]) (t := 60) ?hr ?_; (case hd => rfl); (case hg => rfl); (case hr => first | (go_simp; done) | (go_simp; rfl)); clear HB; intro gb181 w13 HB BK181 GW181; have GE181 := GW181) | ((with_reducible refine gate_dst (N := 2) rfl ?_); (try (refine gate_guard (by rfl) ?_; dsimp only)); refine box_event ?hg (N := 2) ?hd (cs := #[.bool false, .slice none 0 0, .int .i64 0]) (t := 60) ?hr ?_; (case hd => rfl); (case hg => rfl); (case hr => first | (go_simp; done) | (go_simp; rfl)); intro gb182 hg w14 hbox hb; have n0_ := asd (blk_below (g := gb181) (o := .cells #[.bool a0_0, .slice A0_1 l0_1.length c0_1, .int .i64 a0_2] 60 (0, 0)) (blkU BK181.out) hb); have n1_ := asd (below_step hbs hb); have n2_ := asd (hbox); have n3_ := asd ((by rw [hg]; exact (below_size hbs) : w.heap.size ≤ gb182)); have n4_ := asd ((by rw [hg]; exact (below_size hbs) : w.heap.size ≤ gb182)); have n5_ := asd ((by rw [hg]; exact Nat.ne_of_lt (blk_lt (g := gb181) (o := .cells #[.bool a0_0, .slice A0_1 l0_1.length c0_1, .int .i64 a0_2] 60 (0, 0)) (blkU BK181.out)) : gb181 ≠ gb182)); have n6_ := asd ((by rw [hg]; exact Nat.ne_of_gt (blk_lt (g := gb181) (o := .cells #[.bool a0_0, .slice A0_1 l0_1.length c0_1, .int .i64 a0_2] 60 (0, 0)) (blkU BK181.out)) : gb182 ≠ gb181)); clear BK181; clear HB; have BK181 := n0_; have HB := n1_; have BK182 := n2_; have GW182 := n3_; have GE182 := n4_; have NB181_182 := n5_; have NB182_181 := n6_; clear n0_ n1_ n2_ n3_ n4_ n5_ n6_; clear hb hbox hg; have hnb15 := NB181_182.out; have hnc15 := NB182_181.out; obtain ⟨hcz16_0, hcz16_1, hcz16_2, hfz16_0, hfz16_1, hfz16_2⟩ := cz3 BK181.out) | ((with_reducible refine gate_callee (f := 91) rfl ?_); refine goesL_ (some 4) rfl rfl Tryz.func91 (by kernel_rfl) rfl #[.agg #[.bool a0_0, .slice A0_1 l0_1.length c0_1, .int .i64 a0_2]] rfl eqA ?_; (with_reducible refine (dyad_Valid.calls a0_0 _ _ l0_1 a0_2 true _ ?side1 ?side2 A2.out).mono ?_); (case side1 => repeat (first | exact (Kd.C_below HR0_1.out HB.out) | (with_reducible refine Kd.C_alloc ?_ _) | (with_reducible refine Kd.C_drewN ?_ _) | (with_reducible refine Kd.C_drew ?_))); (case side2 => exact HC0_1.out); rintro e w17 ⟨rfl, hb⟩; refine ⟨_, rfl, ?_⟩; have n0_ := asd (blk_below (g := gb181) (o := .cells #[.bool a0_0, .slice A0_1 l0_1.length c0_1, .int .i64 a0_2] 60 (0, 0)) (blkU BK181.out) hb); have n1_ := asd (blk_below (g := gb182) (o := .cells #[.bool false, .slice none 0 0, .int .i64 0] 60 (0, 0)) (blkU BK182.out) hb); have n2_ := asd (below_step hbs hb); clear BK181; clear BK182; clear HB; have BK181 := n0_; have BK182 := n1_; have HB := n2_; clear n0_ n1_ n2_; (try clear hb); obtain ⟨hcz18_0, hcz18_1, hcz18_2, hfz18_0, hfz18_1, hfz18_2⟩ := cz3 BK181.out))
    have n0_ := asd (blk_drew BK181.out)
    have n1_ := asd (blk_drew BK182.out)
    have n2_ := asd (below_drew1 HB.out)
    clear BK181
    clear BK182
    clear HB
    have BK181 := n0_
    have BK182 := n1_
    have HB := n2_
    clear n0_ n1_ n2_
    refine start_ (n := 11) (S := fun w' => w'.cell? ⟨gb181, 0, none⟩ = some (.bool a0_0) ∧ w'.cell? ⟨gb181, 1, none⟩ = some (.slice A0_1 l0_1.length c0_1) ∧ w'.cell? ⟨gb181, 2, none⟩ = some (.int .i64 a0_2)) (ds := []) #[false, false, false, false, false, false, false, false, false, false, false] (by kernel_rfl) rfl rfl ⟨(blk_cell BK181.out 0).trans rfl, (blk_cell BK181.out 1).trans rfl, (blk_cell BK181.out 2).trans rfl⟩ (fun hHeld => ?_); refine with_tabW dyad_Neg.tab3 dyad_Neg.bits3 (fun HT_ HW_ => ?_)
    generalize w17.drew = w19 at BK181 BK182 HB hHeld ⊢
    refine pure_ (i := 0) (N := some 13) (v := ?_) (a' := ?_) #[true, false, false, false, false, false, false, false, false, false, false] rfl rfl (any_of HT_.out (by kernel_rfl)) (fun _ _ _ h => h) (Or.inl ⟨by rfl, ?_⟩) ?_ ?_
    rotate_left
    ·intro w'
     go_simp
     with_reducible rfl
    rotate_left
    ·simp only [Act.put, List.setIfInBounds_toArray, List.set_cons_zero, List.set_cons_succ, i64_w, i32_w]
     rfl
    refine pure_ (i := 4) (N := some 17) (v := ?_) (a' := ?_) #[true, false, false, false, true, false, false, false, false, false, false] rfl rfl (any_of HT_.out (by kernel_rfl)) (fun _ _ _ h => h) (Or.inl ⟨by rfl, ?_⟩) ?_ ?_
    rotate_left
    ·intro w'
     go_simp
     with_reducible rfl
    rotate_left
    ·simp only [Act.put, List.setIfInBounds_toArray, List.set_cons_zero, List.set_cons_succ, i64_w, i32_w]
     rfl
    refine pure_ (i := 7) (N := some 20) (v := ?_) (a' := ?_) #[true, false, false, false, true, false, false, true, false, false, false] rfl rfl (any_of HT_.out (by kernel_rfl)) (fun _ _ _ h => h) (Or.inl ⟨by rfl, ?_⟩) ?_ ?_
    rotate_left
    ·intro w'
     go_simp
     with_reducible rfl
    rotate_left
    ·simp only [Act.put, List.setIfInBounds_toArray, List.set_cons_zero, List.set_cons_succ, i64_w, i32_w]
     rfl
    refine take_ (i := 1) (N := some 14) (v := ?_) (a' := ?_) #[true, true, false, false, true, false, false, true, false, false, false] rfl rfl (take_ofW HT_.out HW_.out (by kernel_rfl)) (fun _ _ _ h => h) (Or.inl ⟨by rfl, ?_⟩) hHeld ?_ ?_
    rotate_left
    ·rintro w' ⟨s0, s1, s2⟩
     go_simp
     with_reducible rfl
    rotate_left
    ·simp only [Act.put, List.setIfInBounds_toArray, List.set_cons_zero, List.set_cons_succ, i64_w, i32_w]
     rfl
    refine pure_ (i := 2) (N := some 15) (v := ?_) (a' := ?_) #[true, true, true, false, true, false, false, true, false, false, false] rfl rfl (any_of HT_.out (by kernel_rfl)) (fun _ _ _ h => h) (Or.inl ⟨by rfl, ?_⟩) ?_ ?_
    rotate_left
    ·intro w'
     go_simp
     with_reducible rfl
    rotate_left
    ·simp only [Act.put, List.setIfInBounds_toArray, List.set_cons_zero, List.set_cons_succ, i64_w, i32_w]
     rfl
    refine take_ (i := 5) (N := some 18) (v := ?_) (a' := ?_) #[true, true, true, false, true, true, false, true, false, false, false] rfl rfl (take_ofW HT_.out HW_.out (by kernel_rfl)) (fun _ _ _ h => h) (Or.inl ⟨by rfl, ?_⟩) hHeld ?_ ?_
    rotate_left
    ·rintro w' ⟨s0, s1, s2⟩
     go_simp
     with_reducible rfl
    rotate_left
    ·simp only [Act.put, List.setIfInBounds_toArray, List.set_cons_zero, List.set_cons_succ, i64_w, i32_w]
     rfl
    refine take_ (i := 8) (N := some 21) (v := ?_) (a' := ?_) #[true, true, true, false, true, true, false, true, true, false, false] rfl rfl (take_ofW HT_.out HW_.out (by kernel_rfl)) (fun _ _ _ h => h) (Or.inl ⟨by rfl, ?_⟩) hHeld ?_ ?_
    rotate_left
    ·rintro w' ⟨s0, s1, s2⟩
     go_simp
     with_reducible rfl
    rotate_left
    ·simp only [Act.put, List.setIfInBounds_toArray, List.set_cons_zero, List.set_cons_succ, i64_w, i32_w]
     rfl
    refine one_ (i := 3) (N := some 16) #[true, true, true, true, true, true, false, true, true, false, false] rfl rfl (one_of HT_.out (by kernel_rfl)) (by decide) (fun K hK => ?_)
    refine Kd.R_lit_step (Kd.int .u32) _ 83 ?hg (N := 16) ?hd (xs := ([] : List Int)) (inner := []) (ok := fun _ => True) (okp := fun _ => True) ?hr ?hp (fun _ hk => hk) trivial (Below.refl _ _) (Nat.le_refl _) (by simp) ?_; (case hd => rfl); (case hg => rfl); (case hr => first | (go_simp; done) | (go_simp; rfl)); (case hp => exact (Reps.none _ _))
    intro v185 w20 ho21 hb hg_ hnew_
    clear hg_ hnew_
    (first | rw [← Ny184.out] at ho21 | (simp only [Int.reduceToNat] at ho21; rw [← Ny184.out] at ho21))
    have n0_ := asd (Kd.R_lower ho21 (below_size hbs))
    have n1_ := asd (blk_below (g := gb181) (o := .cells #[.bool a0_0, .slice A0_1 l0_1.length c0_1, .int .i64 a0_2] 60 (0, 0)) (blkU BK181.out) hb)
    have n2_ := asd (blk_below (g := gb182) (o := .cells #[.bool false, .slice none 0 0, .int .i64 0] 60 (0, 0)) (blkU BK182.out) hb)
    have n3_ := asd (below_step hbs hb)
    clear BK181
    clear BK182
    clear HB
    have HO186 := n0_
    have BK181 := n1_
    have BK182 := n2_
    have HB := n3_
    clear n0_ n1_ n2_ n3_
    clear hb ho21
    refine hK.out _ _ ⟨(blk_cell BK181.out 0).trans rfl, (blk_cell BK181.out 1).trans rfl, (blk_cell BK181.out 2).trans rfl⟩ (fun hHeld => ?_)
    clear hK K
    refine norm_ (a' := ?_) ?_ ?_
    rotate_left
    ·show Act.put _ (some 16) _ = _
     simp only [Act.put, List.setIfInBounds_toArray, List.set_cons_zero, List.set_cons_succ, i64_w, i32_w]
     rfl
    refine one_ (i := 6) (N := some 19) #[true, true, true, true, true, true, true, true, true, false, false] rfl rfl (one_of HT_.out (by kernel_rfl)) (by decide) (fun K hK => ?_)
    refine Kd.R_append_rows_step (Kd.int .u32) (w0 := w) w.heap.size (by rfl) (.tmp 16) (.tmp 18) 39 83 (.int .u32 0) 4 rfl Tryz.underlying39 info83 rfl (by decide) (by omega) v185 y184 l0_1 _ _ _ (fun _ => True) (fun _ => False) rfl rfl ?aO ?aR (fun _ _ h => h) (fun _ h => h.elim) ?aF ?aB ?aS ?aL ?_
    (case aR => repeat (first | exact (Kd.C_below HR0_1.out HB.out) | (with_reducible refine Kd.C_alloc ?_ _) | (with_reducible refine Kd.C_drewN ?_ _) | (with_reducible refine Kd.C_drew ?_)))
    (case aB => exact hbs)
    (case aF => exact (fun _ _ => trivial))
    (case aO => exact (rUp HO186.out))
    (case aS => exact (below_size hbs))
    (case aL => have := LMc12.out; omega)
    intro v188 w22 ho hb hg hat
    rw [← Ny187.out] at ho
    have n0_ := asd (blk_grown (g := gb181) (o := .cells #[.bool a0_0, .slice A0_1 l0_1.length c0_1, .int .i64 a0_2] 60 (0, 0)) (blkU BK181.out) hg (Kd.R_ne HO186.out BK181.out (by decide)))
    have n1_ := asd (blk_grown (g := gb182) (o := .cells #[.bool false, .slice none 0 0, .int .i64 0] 60 (0, 0)) (blkU BK182.out) hg (Kd.R_ne HO186.out BK182.out (by decide)))
    have n2_ := asd (hb)
    have n3_ := asd (ho)
    clear BK181
    clear BK182
    clear HB
    clear HO186
    have BK181 := n0_
    have BK182 := n1_
    have HB := n2_
    have HO189 := n3_
    clear n0_ n1_ n2_ n3_
    clear ho hb hg hat
    obtain ⟨Ao23, co23, eo23⟩ := Kd.R_slice HO189.out
    (first | subst eo23 | (injection eo23 with f1_ f2_ f3_; have f4_ := f1_.symm; have f5_ := f3_.symm; clear f1_ f2_ f3_; subst f4_; subst f5_))
    refine hK.out _ _ ⟨(blk_cell BK181.out 0).trans rfl, (blk_cell BK181.out 1).trans rfl, (blk_cell BK181.out 2).trans rfl⟩ (fun hHeld => ?_)
    clear hK K
    refine norm_ (a' := ?_) ?_ ?_
    rotate_left
    ·show Act.put _ (some 19) _ = _
     simp only [Act.put, List.setIfInBounds_toArray, List.set_cons_zero, List.set_cons_succ, i64_w, i32_w]
     rfl
    refine pure_ (i := 9) (N := some 22) (v := ?_) (a' := ?_) #[true, true, true, true, true, true, true, true, true, true, false] rfl rfl (any_of HT_.out (by kernel_rfl)) (fun _ _ _ h => h) (Or.inl ⟨by rfl, ?_⟩) ?_ ?_
    rotate_left
    ·intro w'
     go_simp
     with_reducible rfl
    rotate_left
    ·simp only [Act.put, List.setIfInBounds_toArray, List.set_cons_zero, List.set_cons_succ, i64_w, i32_w]
     rfl
    refine one_ (i := 10) (N := none) #[true, true, true, true, true, true, true, true, true, true, true] rfl rfl (one_of HT_.out (by kernel_rfl)) (by decide) (fun K hK => ?_)
    have hs24 : w22.cell? ⟨gb182, 0, none⟩ = some (.bool false) := (blk_cell BK182.out 0).trans rfl
    have hfs24 := blk_frozen BK182.out 0
    have hns24_0 := NB181_182.out
    have hms24_0 := NB182_181.out
    have hs25 : w22.cell? ⟨gb182, 1, none⟩ = some (.slice none 0 0) := (blk_cell BK182.out 1).trans rfl
    have hfs25 := blk_frozen BK182.out 1
    have hns25_0 := NB181_182.out
    have hms25_0 := NB182_181.out
    have hs26 : w22.cell? ⟨gb182, 2, none⟩ = some (.int .i64 0) := (blk_cell BK182.out 2).trans rfl
    have hfs26 := blk_frozen BK182.out 2
    have hns26_0 := NB181_182.out
    have hms26_0 := NB182_181.out
    refine skip_ (w1 := ?_) (by rfl) rfl ?_ ?_
    rotate_left
    ·go_simp
     rfl
    refine hK.out _ _ ⟨((cell_far (p := ⟨gb182, _, none⟩) NB181_182.out _).trans (((cell_far (p := ⟨gb182, _, none⟩) NB181_182.out _).trans (((cell_far (p := ⟨gb182, _, none⟩) NB181_182.out _).trans (hHeld.1)))))), ((cell_far (p := ⟨gb182, _, none⟩) NB181_182.out _).trans (((cell_far (p := ⟨gb182, _, none⟩) NB181_182.out _).trans (((cell_far (p := ⟨gb182, _, none⟩) NB181_182.out _).trans (hHeld.2.1)))))), ((cell_far (p := ⟨gb182, _, none⟩) NB181_182.out _).trans (((cell_far (p := ⟨gb182, _, none⟩) NB181_182.out _).trans (((cell_far (p := ⟨gb182, _, none⟩) NB181_182.out _).trans (hHeld.2.2))))))⟩ (fun hHeld => ?_)
    clear hK K
    refine done_ (done_of HT_.out (by kernel_rfl)) ?_
    try go_wp2
    refine bodyPost_ret (results_cell_row rfl _ _ gb182 60 #[.bool (!a0_0), .slice Ao23 y187.length co23, .int .i64 a0_2] (0, 0) _ rfl (by (with_reducible repeat (first | refine blk_drewN ?_ _ | refine blk_drew ?_ | refine blk_alloc ?_ _)); refine blk_put (cs := #[.bool (!a0_0), .slice Ao23 y187.length co23, .int .i64 0]) ?_ 2 _ rfl; (with_reducible repeat (first | refine blk_drewN ?_ _ | refine blk_drew ?_ | refine blk_alloc ?_ _)); refine blk_put (cs := #[.bool (!a0_0), .slice none 0 0, .int .i64 0]) ?_ 1 _ rfl; (with_reducible repeat (first | refine blk_drewN ?_ _ | refine blk_drew ?_ | refine blk_alloc ?_ _)); refine blk_put (cs := #[.bool false, .slice none 0 0, .int .i64 0]) ?_ 0 _ rfl; (with_reducible repeat (first | refine blk_drewN ?_ _ | refine blk_drew ?_ | refine blk_alloc ?_ _)); exact BK182.out) Tryz.underlying60 rfl (by kernel_rfl)) rfl ?_
    exact ⟨_, eqC, by (with_reducible repeat (first | apply Kd.R_alloc | apply Kd.R_drewN | apply Kd.R_drew)); exact Kd.R_mono (Kd.R_far (p := ⟨gb182, 2, none⟩) (Kd.R_far (p := ⟨gb182, 1, none⟩) (Kd.R_far (p := ⟨gb182, 0, none⟩) (Kd.R_types HO189.out BK182.out (by decide)) (fun _ hk => hk.2) (.bool (!a0_0))) (fun _ hk => hk.2) (.slice Ao23 y187.length co23)) (fun _ hk => hk.2) (.int .i64 a0_2)) (fun _ hk => trivial), hbs⟩
   ·rw [if_neg c12] at H
    exact absurd H (by simp)
 ·replace c3 := Bool.eq_false_iff.mpr c3
  subst c3
  rw [if_neg (show ¬ (false = true) by decide)] at H
  simp only [Option.some.injEq, Prod.mk.injEq] at H
  obtain ⟨rfl, rfl, rfl⟩ := H
  go_enter Tryz.func89, Tryz.ntmps89
  go_wp2_with (first | ((with_reducible refine gate_dst (N := 1) rfl ?_); (try (refine gate_guard (by rfl) ?_; dsimp only)); refine box_ev (w := w) ?hg (N := 1) ?hd hbw (cs := #[.bool a0_0, .slice A0_1 l0_1.length c0_1, .int .i64 a0_2]) (t := 60) ?hr ?_; (case hd => rfl); (case hg => rfl); (case hr => first | (go_simp; done) | (go_simp; rfl)); clear HB; intro gb181 w27 HB BK181 GW181; have GE181 := GW181) | ((with_reducible refine gate_dst (N := 2) rfl ?_); (try (refine gate_guard (by rfl) ?_; dsimp only)); refine box_event ?hg (N := 2) ?hd (cs := #[.bool false, .slice none 0 0, .int .i64 0]) (t := 60) ?hr ?_; (case hd => rfl); (case hg => rfl); (case hr => first | (go_simp; done) | (go_simp; rfl)); intro gb182 hg w28 hbox hb; have n0_ := asd (blk_below (g := gb181) (o := .cells #[.bool a0_0, .slice A0_1 l0_1.length c0_1, .int .i64 a0_2] 60 (0, 0)) (blkU BK181.out) hb); have n1_ := asd (below_step hbs hb); have n2_ := asd (hbox); have n3_ := asd ((by rw [hg]; exact (below_size hbs) : w.heap.size ≤ gb182)); have n4_ := asd ((by rw [hg]; exact (below_size hbs) : w.heap.size ≤ gb182)); have n5_ := asd ((by rw [hg]; exact Nat.ne_of_lt (blk_lt (g := gb181) (o := .cells #[.bool a0_0, .slice A0_1 l0_1.length c0_1, .int .i64 a0_2] 60 (0, 0)) (blkU BK181.out)) : gb181 ≠ gb182)); have n6_ := asd ((by rw [hg]; exact Nat.ne_of_gt (blk_lt (g := gb181) (o := .cells #[.bool a0_0, .slice A0_1 l0_1.length c0_1, .int .i64 a0_2] 60 (0, 0)) (blkU BK181.out)) : gb182 ≠ gb181)); clear BK181; clear HB; have BK181 := n0_; have HB := n1_; have BK182 := n2_; have GW182 := n3_; have GE182 := n4_; have NB181_182 := n5_; have NB182_181 := n6_; clear n0_ n1_ n2_ n3_ n4_ n5_ n6_; clear hb hbox hg; have hnb29 := NB181_182.out; have hnc29 := NB182_181.out; obtain ⟨hcz30_0, hcz30_1, hcz30_2, hfz30_0, hfz30_1, hfz30_2⟩ := cz3 BK181.out) | ((with_reducible refine gate_callee (f := 91) rfl ?_); refine goesL_ (some 4) rfl rfl Tryz.func91 (by kernel_rfl) rfl #[.agg #[.bool a0_0, .slice A0_1 l0_1.length c0_1, .int .i64 a0_2]] rfl eqA ?_; (with_reducible refine (dyad_Valid.calls a0_0 _ _ l0_1 a0_2 false _ ?side1 ?side2 A2.out).mono ?_); (case side1 => repeat (first | exact (Kd.C_below HR0_1.out HB.out) | (with_reducible refine Kd.C_alloc ?_ _) | (with_reducible refine Kd.C_drewN ?_ _) | (with_reducible refine Kd.C_drew ?_))); (case side2 => exact HC0_1.out); rintro e w31 ⟨rfl, hb⟩; refine ⟨_, rfl, ?_⟩; have n0_ := asd (blk_below (g := gb181) (o := .cells #[.bool a0_0, .slice A0_1 l0_1.length c0_1, .int .i64 a0_2] 60 (0, 0)) (blkU BK181.out) hb); have n1_ := asd (blk_below (g := gb182) (o := .cells #[.bool false, .slice none 0 0, .int .i64 0] 60 (0, 0)) (blkU BK182.out) hb); have n2_ := asd (below_step hbs hb); clear BK181; clear BK182; clear HB; have BK181 := n0_; have BK182 := n1_; have HB := n2_; clear n0_ n1_ n2_; (try clear hb); obtain ⟨hcz32_0, hcz32_1, hcz32_2, hfz32_0, hfz32_1, hfz32_2⟩ := cz3 BK182.out))
  refine bodyPost_ret (results_cell_row rfl _ _ gb182 60 #[.bool false, .slice none 0 0, .int .i64 0] (0, 0) _ rfl (by (with_reducible repeat (first | refine blk_drewN ?_ _ | refine blk_drew ?_ | refine blk_alloc ?_ _)); refine blk_put (cs := #[.bool false, .slice none 0 0, .int .i64 0]) ?_ 2 _ rfl; (with_reducible repeat (first | refine blk_drewN ?_ _ | refine blk_drew ?_ | refine blk_alloc ?_ _)); refine blk_put (cs := #[.bool false, .slice none 0 0, .int .i64 0]) ?_ 1 _ rfl; (with_reducible repeat (first | refine blk_drewN ?_ _ | refine blk_drew ?_ | refine blk_alloc ?_ _)); refine blk_put (cs := #[.bool false, .slice none 0 0, .int .i64 0]) ?_ 0 _ rfl; (with_reducible repeat (first | refine blk_drewN ?_ _ | refine blk_drew ?_ | refine blk_alloc ?_ _)); exact BK182.out) Tryz.underlying60 rfl (by kernel_rfl)) rfl ?_
  exact ⟨_, eqC, by first | exact Kd.R_nil _ _ _ _ _ | exact Kd.N_nil _ _ _ _ _ | exact Kd.V_nil _ _ _ _ _ | exact Kd.Q_nil _ _ _ _ _ | exact Kd.S_nil _ _ _ _ _, hbs⟩
end Go.Proofs.YthmeocigliephaaGreatDoor.PSu
end
section
namespace Go.Proofs.YthmeocigliephaaGreatDoor.PSu
attribute [local go_sem] f64bits_run f64from_run run_float_some max2_int min2_int max_two min_two max_three min_three max_four min_four
def dyad_Sub.f (k : Nat) (a0_0 : Bool) (l0_1 : List Int) (a0_2 : Int) (a1_0 : Bool) (l1_1 : List Int) (a1_2 : Int) : Option (Bool × List Int × Int × Int) := (dyad_valid.f k (([(⟨a0_0, l0_1, a0_2⟩ : S60), (⟨a1_0, l1_1, a1_2⟩ : S60)] : List (S60)))).bind fun t196 => (if t196 = true then ((dyad_Neg.f a1_0 l1_1 a1_2).bind fun bt197 => ((dyad_Add.f a0_0 l0_1 a0_2 bt197.1 bt197.2.1 bt197.2.2).bind fun bt202 => (some (bt202.1, bt202.2.1, bt202.2.2.1, bt202.2.2.2)))) else (some (false, ([] : List Int), 0, 1)))
def dyad_Sub.T3 : Bool × List (List Nat × List Nat) := (true, [([], []), ([], []), ([1], [1]), ([0, 2, 2], [0, 2]), ([3], [3]), ([3], [3]), ([4, 3, 0, 1, 2, 3, 4, 5], [4]), ([5, 6, 0, 1, 2, 3, 4, 5, 6], [5])])
def dyad_Sub.B3 : List Nat := [0, 0, 2, 7, 15, 15, 63, 127]
theorem dyad_Sub.tab3 : rtab .any (opsOf Tryz.f44 3) = dyad_Sub.T3 := by kernel_rfl
theorem dyad_Sub.bits3 : waitsOk dyad_Sub.T3.2 dyad_Sub.B3 = true := by kernel_rfl
theorem dyad_Sub.calls (k : Nat) (a0_0 : Bool) (P0_1_ : Nat → Prop) (A0_1 : Option Addr) (c0_1 : Nat) (l0_1 : List Int) (a0_2 : Int) (a1_0 : Bool) (P1_1_ : Nat → Prop) (A1_1 : Option Addr) (c1_1 : Nat) (l1_1 : List Int) (a1_2 : Int) (r1 : Bool) (r2 : List Int) (r3 : Int) (r4 : Int) (w : World) (hs0_1 : Kd.V (Kd.int .u32) 83 w w.heap.size (fun k_ => P0_1_ k_) (.slice A0_1 l0_1.length c0_1) l0_1) (hs1_1 : Kd.V (Kd.int .u32) 83 w w.heap.size (fun k_ => P1_1_ k_) (.slice A1_1 l1_1.length c1_1) l1_1) (h : dyad_Sub.f k a0_0 l0_1 a0_2 a1_0 l1_1 a1_2 = some (r1, r2, r3, r4)) (hL : Big.Laid w := by exact Big.Laid.step HL.out hbw) :
  Calls Tryz.prog 44 #[.agg #[.bool a0_0, .slice A0_1 l0_1.length c0_1, .int .i64 a0_2], .agg #[.bool a1_0, .slice A1_1 l1_1.length c1_1, .int .i64 a1_2]] w fun e w' => ∃ v1_ : Value, e = .returned (.tuple #[.agg #[.bool r1, v1_, .int .i64 r3], .int .i64 r4]) ∧ Kd.R (Kd.int .u32) 83 w' w.heap.size (fun k_ => (w.heap.size ≤ k_)) v1_ r2 ∧ Below w.heap.size w w' := by
 have HL := asd hL
 clear hL
 have hu60 := Tryz.underlying60
 have HO0_1 := asd (show Kd.V (Kd.int .u32) 83 w w.heap.size (fun k_ => ((P0_1_ k_ ∨ P1_1_ k_) ∨ w.heap.size ≤ k_)) (.slice A0_1 l0_1.length c0_1) l0_1 from Kd.V_mono hs0_1 (fun k_ hk => .inl (.inl hk)))
 have HO1_1 := asd (show Kd.V (Kd.int .u32) 83 w w.heap.size (fun k_ => ((P0_1_ k_ ∨ P1_1_ k_) ∨ w.heap.size ≤ k_)) (.slice A1_1 l1_1.length c1_1) l1_1 from Kd.V_mono hs1_1 (fun k_ hk => .inl (.inr hk)))
 have HB := asd (Below.refl w.heap.size w)
 have H := h
 clear h
 unfold dyad_Sub.f at H
 obtain ⟨y193, hy193⟩ : ∃ y_ : List (S60), y_ = (([(⟨a0_0, l0_1, a0_2⟩ : S60), (⟨a1_0, l1_1, a1_2⟩ : S60)] : List (S60))) := ⟨_, rfl⟩
 try rw [Option.bind_some] at H
 try rw [← hy193] at H
 have Ny193 := asd hy193
 clear hy193
 replace H := Option.bind_eq_some_iff.mp H
 obtain ⟨t196, A30, H⟩ := H
 have A3 := asd A30
 clear A30
 by_cases c4 : t196 = true
 ·subst c4
  rw [if_pos rfl] at H
  replace H := Option.bind_eq_some_iff.mp H
  obtain ⟨⟨t197, t198, t201⟩, A50, H⟩ := H
  replace H : ((dyad_Add.f a0_0 l0_1 a0_2 t197 t198 t201).bind fun bt202 => (some (bt202.1, bt202.2.1, bt202.2.2.1, bt202.2.2.2))) = some (r1, r2, r3, r4) := H
  have A5 := asd A50
  clear A50
  replace H := Option.bind_eq_some_iff.mp H
  obtain ⟨⟨t202, t203, t206, t207⟩, A60, H⟩ := H
  replace H : (some (t202, t203, t206, t207)) = some (r1, r2, r3, r4) := H
  have A6 := asd A60
  clear A60
  simp only [Option.some.injEq, Prod.mk.injEq] at H
  obtain ⟨rfl, rfl, rfl, rfl⟩ := H
  go_enter Tryz.func44, Tryz.ntmps44
  try go_wp2_with (first | ((with_reducible refine gate_dst (N := 2) rfl ?_); refine box_event ?hg (N := 2) ?hd (cs := #[.bool a0_0, .slice A0_1 l0_1.length c0_1, .int .i64 a0_2]) (t := 60) ?hr ?_; (case hd => rfl); (case hg => rfl); (case hr => first | (go_simp; done) | (go_simp; rfl)); intro gb190 hg w7 hbox hb; have n0_ := asd (Kd.V_below (Kd.V_elderB (by (with_reducible repeat (first | apply Kd.V_alloc | apply Kd.V_drewN | apply Kd.V_drew)); exact HO0_1.out) gb190 (Nat.le_of_eq hg.symm)) hb); have n1_ := asd (Kd.V_below (Kd.V_elderB (by (with_reducible repeat (first | apply Kd.V_alloc | apply Kd.V_drewN | apply Kd.V_drew)); exact HO1_1.out) gb190 (Nat.le_of_eq hg.symm)) hb); have n2_ := asd (below_step hbw hb); have n3_ := asd (hbox); have n4_ := asd ((by rw [hg]; exact (below_size hbw) : w.heap.size ≤ gb190)); have n5_ := asd ((by rw [hg]; exact (below_size hbw) : w.heap.size ≤ gb190)); clear HO0_1; clear HO1_1; clear HB; have HO0_1 := n0_; have HO1_1 := n1_; have HB := n2_; have BK190 := n3_; have GW190 := n4_; have GE190 := n5_; clear n0_ n1_ n2_ n3_ n4_ n5_; clear hb hbox hg) | ((with_reducible refine gate_dst (N := 3) rfl ?_); refine box_event ?hg (N := 3) ?hd (cs := #[.bool a1_0, .slice A1_1 l1_1.length c1_1, .int .i64 a1_2]) (t := 60) ?hr ?_; (case hd => rfl); (case hg => rfl); (case hr => first | (go_simp; done) | (go_simp; rfl)); intro gb191 hg w8 hbox hb; have n0_ := asd (Kd.V_below (Kd.V_elderB (by (with_reducible repeat (first | apply Kd.V_alloc | apply Kd.V_drewN | apply Kd.V_drew)); exact HO0_1.out) gb191 (Nat.le_of_eq hg.symm)) hb); have n1_ := asd (Kd.V_below (Kd.V_elderB (by (with_reducible repeat (first | apply Kd.V_alloc | apply Kd.V_drewN | apply Kd.V_drew)); exact HO1_1.out) gb191 (Nat.le_of_eq hg.symm)) hb); have n2_ := asd (blk_below (g := gb190) (o := .cells #[.bool a0_0, .slice A0_1 l0_1.length c0_1, .int .i64 a0_2] 60 (0, 0)) (blkU BK190.out) hb); have n3_ := asd (below_step hbs hb); have n4_ := asd (hbox); have n5_ := asd ((by rw [hg]; exact (below_size hbs) : w.heap.size ≤ gb191)); have n6_ := asd ((by rw [hg]; exact (below_size hbs) : w.heap.size ≤ gb191)); have n7_ := asd ((by rw [hg]; exact Nat.ne_of_lt (blk_lt (g := gb190) (o := .cells #[.bool a0_0, .slice A0_1 l0_1.length c0_1, .int .i64 a0_2] 60 (0, 0)) (blkU BK190.out)) : gb190 ≠ gb191)); have n8_ := asd ((by rw [hg]; exact Nat.ne_of_gt (blk_lt (g := gb190) (o := .cells #[.bool a0_0, .slice A0_1 l0_1.length c0_1, .int .i64 a0_2] 60 (0, 0)) (blkU BK190.out)) : gb191 ≠ gb190)); clear HO0_1; clear HO1_1; clear BK190; clear HB; have HO0_1 := n0_; have HO1_1 := n1_; have BK190 := n2_; have HB := n3_; have BK191 := n4_; have GW191 := n5_; have GE191 := n6_; have NB190_191 := n7_; have NB191_190 := n8_; clear n0_ n1_ n2_ n3_ n4_ n5_ n6_ n7_ n8_; clear hb hbox hg) | ((with_reducible refine gate_dst (N := 4) rfl ?_); refine box_event ?hg (N := 4) ?hd (cs := #[.bool false, .slice none 0 0, .int .i64 0]) (t := 60) ?hr ?_; (case hd => rfl); (case hg => rfl); (case hr => first | (go_simp; done) | (go_simp; rfl)); intro gb192 hg w9 hbox hb; have n0_ := asd (Kd.V_below (Kd.V_elderB (by (with_reducible repeat (first | apply Kd.V_alloc | apply Kd.V_drewN | apply Kd.V_drew)); exact HO0_1.out) gb192 (Nat.le_of_eq hg.symm)) hb); have n1_ := asd (Kd.V_below (Kd.V_elderB (by (with_reducible repeat (first | apply Kd.V_alloc | apply Kd.V_drewN | apply Kd.V_drew)); exact HO1_1.out) gb192 (Nat.le_of_eq hg.symm)) hb); have n2_ := asd (blk_below (g := gb190) (o := .cells #[.bool a0_0, .slice A0_1 l0_1.length c0_1, .int .i64 a0_2] 60 (0, 0)) (blkU BK190.out) hb); have n3_ := asd (blk_below (g := gb191) (o := .cells #[.bool a1_0, .slice A1_1 l1_1.length c1_1, .int .i64 a1_2] 60 (0, 0)) (blkU BK191.out) hb); have n4_ := asd (below_step hbs hb); have n5_ := asd (hbox); have n6_ := asd ((by rw [hg]; exact (below_size hbs) : w.heap.size ≤ gb192)); have n7_ := asd ((by rw [hg]; exact (below_size hbs) : w.heap.size ≤ gb192)); have n8_ := asd ((by rw [hg]; exact Nat.ne_of_lt (blk_lt (g := gb190) (o := .cells #[.bool a0_0, .slice A0_1 l0_1.length c0_1, .int .i64 a0_2] 60 (0, 0)) (blkU BK190.out)) : gb190 ≠ gb192)); have n9_ := asd ((by rw [hg]; exact Nat.ne_of_gt (blk_lt (g := gb190) (o := .cells #[.bool a0_0, .slice A0_1 l0_1.length c0_1, .int .i64 a0_2] 60 (0, 0)) (blkU BK190.out)) : gb192 ≠ gb190)); have n10_ := asd ((by rw [hg]; exact Nat.ne_of_lt (blk_lt (g := gb191) (o := .cells #[.bool a1_0, .slice A1_1 l1_1.length c1_1, .int .i64 a1_2] 60 (0, 0)) (blkU BK191.out)) : gb191 ≠ gb192)); have n11_ := asd ((by rw [hg]; exact Nat.ne_of_gt (blk_lt (g := gb191) (o := .cells #[.bool a1_0, .slice A1_1 l1_1.length c1_1, .int .i64 a1_2] 60 (0, 0)) (blkU BK191.out)) : gb192 ≠ gb191)); clear HO0_1; clear HO1_1; clear BK190; clear BK191; clear HB; have HO0_1 := n0_; have HO1_1 := n1_; have BK190 := n2_; have BK191 := n3_; have HB := n4_; have BK192 := n5_; have GW192 := n6_; have GE192 := n7_; have NB190_192 := n8_; have NB192_190 := n9_; have NB191_192 := n10_; have NB192_191 := n11_; clear n0_ n1_ n2_ n3_ n4_ n5_ n6_ n7_ n8_ n9_ n10_ n11_; clear hb hbox hg; have hnb10 := NB190_191.out; have hnc10 := NB191_190.out; have hnb11 := NB190_192.out; have hnc11 := NB192_190.out; obtain ⟨hcz12_0, hcz12_1, hcz12_2, hfz12_0, hfz12_1, hfz12_2⟩ := cz3 BK190.out; have hnb13 := NB191_192.out; have hnc13 := NB192_191.out; obtain ⟨hcz14_0, hcz14_1, hcz14_2, hfz14_0, hfz14_1, hfz14_2⟩ := cz3 BK191.out) | ((with_reducible refine gate_dst (N := 8) rfl ?_); refine Kd.N_lit k60 _ 60 ?hg (N' := 8) ?hd (xs := ([(⟨a0_0, l0_1, a0_2⟩ : S60), (⟨a1_0, l1_1, a1_2⟩ : S60)] : List (S60))) (inner := [.bool a0_0, .slice A0_1 l0_1.length c0_1, .int .i64 a0_2, .bool a1_0, .slice A1_1 l1_1.length c1_1, .int .i64 a1_2]) (ok := (fun k_ => ((P0_1_ k_ ∨ P1_1_ k_) ∨ w.heap.size ≤ k_) ∧ k_ ≠ gb190 ∧ k_ ≠ gb191 ∧ k_ ≠ gb192)) (okp := (fun k_ => ((P0_1_ k_ ∨ P1_1_ k_) ∨ w.heap.size ≤ k_) ∧ k_ ≠ gb190 ∧ k_ ≠ gb191 ∧ k_ ≠ gb192)) ?hr ?hp (fun _ hk => hk) ((show ∀ k_, w9.heap.size ≤ k_ → (fun k_ => ((P0_1_ k_ ∨ P1_1_ k_) ∨ w.heap.size ≤ k_) ∧ k_ ≠ gb190 ∧ k_ ≠ gb191 ∧ k_ ≠ gb192) k_ from fun k_ hk => ⟨(.inr (Nat.le_trans (below_size hbs) hk)), Kd.freshB (g := gb190) (o := .cells #[.bool a0_0, .slice A0_1 l0_1.length c0_1, .int .i64 a0_2] 60 (0, 0)) (blkU BK190.out) k_ hk, Kd.freshB (g := gb191) (o := .cells #[.bool a1_0, .slice A1_1 l1_1.length c1_1, .int .i64 a1_2] 60 (0, 0)) (blkU BK191.out) k_ hk, Kd.freshB (g := gb192) (o := .cells #[.bool false, .slice none 0 0, .int .i64 0] 60 (0, 0)) (blkU BK192.out) k_ hk⟩) _ (Nat.le_refl _)) (Below.refl _ _) (Nat.le_refl _) (by simp) ?_; (case hd => rfl); (case hg => rfl); (case hr => first | (go_simp; done) | (go_simp; rfl)); (case hp => exact (Reps.c3 (show Kd.FK k60 _ _ (⟨a0_0, l0_1, a0_2⟩ : S60) [.bool a0_0, .slice A0_1 l0_1.length c0_1, .int .i64 a0_2] from (k60_mkF _ _ (⟨a0_0, l0_1, a0_2⟩ : S60) (Kd.V_reads' (Kd.V_mono (ok' := (fun k_ => ((P0_1_ k_ ∨ P1_1_ k_) ∨ w.heap.size ≤ k_) ∧ k_ ≠ gb190 ∧ k_ ≠ gb191 ∧ k_ ≠ gb192)) (HO0_1.out) (fun k_ hk => ⟨hk.1.1.1, ⟨hk.1.1.2, ⟨hk.1.2, hk.2⟩⟩⟩))).2.1 (Kd.V_F (Kd.V_mono (ok' := (fun k_ => ((P0_1_ k_ ∨ P1_1_ k_) ∨ w.heap.size ≤ k_) ∧ k_ ≠ gb190 ∧ k_ ≠ gb191 ∧ k_ ≠ gb192)) (HO0_1.out) (fun k_ hk => ⟨hk.1.1.1, ⟨hk.1.1.2, ⟨hk.1.2, hk.2⟩⟩⟩))))) (Reps.c3 (show Kd.FK k60 _ _ (⟨a1_0, l1_1, a1_2⟩ : S60) [.bool a1_0, .slice A1_1 l1_1.length c1_1, .int .i64 a1_2] from (k60_mkF _ _ (⟨a1_0, l1_1, a1_2⟩ : S60) (Kd.V_reads' (Kd.V_mono (ok' := (fun k_ => ((P0_1_ k_ ∨ P1_1_ k_) ∨ w.heap.size ≤ k_) ∧ k_ ≠ gb190 ∧ k_ ≠ gb191 ∧ k_ ≠ gb192)) (HO1_1.out) (fun k_ hk => ⟨hk.1.1.1, ⟨hk.1.1.2, ⟨hk.1.2, hk.2⟩⟩⟩))).2.1 (Kd.V_F (Kd.V_mono (ok' := (fun k_ => ((P0_1_ k_ ∨ P1_1_ k_) ∨ w.heap.size ≤ k_) ∧ k_ ≠ gb190 ∧ k_ ≠ gb191 ∧ k_ ≠ gb192)) (HO1_1.out) (fun k_ hk => ⟨hk.1.1.1, ⟨hk.1.1.2, ⟨hk.1.2, hk.2⟩⟩⟩))))) (Reps.none _ _)))); intro v194 w15 ho16 hb hg_ hnew_; clear hg_ hnew_; (first | rw [← Ny193.out] at ho16 | (simp only [Int.reduceToNat] at ho16; rw [← Ny193.out] at ho16)); have n0_ := asd (Kd.V_elder' (by (with_reducible repeat (first | apply Kd.V_alloc | apply Kd.V_drewN | apply Kd.V_drew)); exact HO0_1.out) (Kd.N_base ho16) hb); have n1_ := asd (Kd.V_elder' (by (with_reducible repeat (first | apply Kd.V_alloc | apply Kd.V_drewN | apply Kd.V_drew)); exact HO1_1.out) (Kd.N_base ho16) hb); have n2_ := asd (Kd.N_lower ho16 (below_size hbs)); have n3_ := asd (blk_below (g := gb190) (o := .cells #[.bool a0_0, .slice A0_1 l0_1.length c0_1, .int .i64 a0_2] 60 (0, 0)) (blkU BK190.out) hb); have n4_ := asd (blk_below (g := gb191) (o := .cells #[.bool a1_0, .slice A1_1 l1_1.length c1_1, .int .i64 a1_2] 60 (0, 0)) (blkU BK191.out) hb); have n5_ := asd (blk_below (g := gb192) (o := .cells #[.bool false, .slice none 0 0, .int .i64 0] 60 (0, 0)) (blkU BK192.out) hb); have n6_ := asd (below_step hbs hb); clear HO0_1; clear HO1_1; clear BK190; clear BK191; clear BK192; clear HB; have HO0_1 := n0_; have HO1_1 := n1_; have HO195 := n2_; have BK190 := n3_; have BK191 := n4_; have BK192 := n5_; have HB := n6_; clear n0_ n1_ n2_ n3_ n4_ n5_ n6_; clear hb ho16; obtain ⟨Ao17, co17, eo17⟩ := Kd.N_slice HO195.out; subst eo17) | ((with_reducible refine gate_callee (f := 88) rfl ?_); refine goesL_ (some 9) rfl rfl Tryz.func88 (by kernel_rfl) rfl #[.slice Ao17 y193.length co17] rfl eqA ?_; (with_reducible refine (dyad_valid.calls k _ _ y193 true _ ?side1 ?side2 A3.out).mono ?_); (case side1 => repeat (first | exact (Kd.N_reads' HO195.out).2.2 | (with_reducible refine Kd.C_alloc ?_ _) | (with_reducible refine Kd.C_drewN ?_ _) | (with_reducible refine Kd.C_drew ?_))); (case side2 => exact (Kd.N_reads' HO195.out).2.1); rintro e w18 ⟨rfl, hb⟩; refine ⟨_, rfl, ?_⟩; have n0_ := asd (Kd.V_below (by (with_reducible repeat (first | apply Kd.V_alloc | apply Kd.V_drewN | apply Kd.V_drew)); exact HO0_1.out) hb); have n1_ := asd (Kd.V_below (by (with_reducible repeat (first | apply Kd.V_alloc | apply Kd.V_drewN | apply Kd.V_drew)); exact HO1_1.out) hb); have n2_ := asd (Kd.N_below (by (with_reducible repeat (first | apply Kd.N_alloc | apply Kd.N_drewN | apply Kd.N_drew)); exact HO195.out) hb); have n3_ := asd (blk_below (g := gb190) (o := .cells #[.bool a0_0, .slice A0_1 l0_1.length c0_1, .int .i64 a0_2] 60 (0, 0)) (blkU BK190.out) hb); have n4_ := asd (blk_below (g := gb191) (o := .cells #[.bool a1_0, .slice A1_1 l1_1.length c1_1, .int .i64 a1_2] 60 (0, 0)) (blkU BK191.out) hb); have n5_ := asd (blk_below (g := gb192) (o := .cells #[.bool false, .slice none 0 0, .int .i64 0] 60 (0, 0)) (blkU BK192.out) hb); have n6_ := asd (below_step hbs hb); clear HO0_1; clear HO1_1; clear HO195; clear BK190; clear BK191; clear BK192; clear HB; have HO0_1 := n0_; have HO1_1 := n1_; have HO195 := n2_; have BK190 := n3_; have BK191 := n4_; have BK192 := n5_; have HB := n6_; clear n0_ n1_ n2_ n3_ n4_ n5_ n6_; (try clear hb)))
  have n0_ := asd (Kd.V_drew HO0_1.out)
  have n1_ := asd (Kd.V_drew HO1_1.out)
  have n2_ := asd (Kd.N_drew HO195.out)
  have n3_ := asd (blk_drew BK190.out)
  have n4_ := asd (blk_drew BK191.out)
  have n5_ := asd (blk_drew BK192.out)
  have n6_ := asd (below_drew1 HB.out)
  clear HO0_1
  clear HO1_1
  clear HO195
  clear BK190
  clear BK191
  clear BK192
  clear HB
  have HO0_1 := n0_
  have HO1_1 := n1_
  have HO195 := n2_
  have BK190 := n3_
  have BK191 := n4_
  have BK192 := n5_
  have HB := n6_
  clear n0_ n1_ n2_ n3_ n4_ n5_ n6_
  refine start_ (n := 8) (S := fun w' => w'.cell? ⟨gb190, 0, none⟩ = some (.bool a0_0) ∧ w'.cell? ⟨gb190, 1, none⟩ = some (.slice A0_1 l0_1.length c0_1) ∧ w'.cell? ⟨gb190, 2, none⟩ = some (.int .i64 a0_2) ∧ w'.cell? ⟨gb191, 0, none⟩ = some (.bool a1_0) ∧ w'.cell? ⟨gb191, 1, none⟩ = some (.slice A1_1 l1_1.length c1_1) ∧ w'.cell? ⟨gb191, 2, none⟩ = some (.int .i64 a1_2)) (ds := []) #[false, false, false, false, false, false, false, false] (by kernel_rfl) rfl rfl ⟨(blk_cell BK190.out 0).trans rfl, (blk_cell BK190.out 1).trans rfl, (blk_cell BK190.out 2).trans rfl, (blk_cell BK191.out 0).trans rfl, (blk_cell BK191.out 1).trans rfl, (blk_cell BK191.out 2).trans rfl⟩ (fun hHeld => ?_); refine with_tabW dyad_Sub.tab3 dyad_Sub.bits3 (fun HT_ HW_ => ?_)
  generalize w18.drew = w19 at HO0_1 HO1_1 HO195 BK190 BK191 BK192 HB hHeld ⊢
  refine take_ (i := 0) (N := some 12) (v := ?_) (a' := ?_) #[true, false, false, false, false, false, false, false] rfl rfl (take_ofW HT_.out HW_.out (by kernel_rfl)) (fun _ _ _ h => h) (Or.inl ⟨by rfl, ?_⟩) hHeld ?_ ?_
  rotate_left
  ·rintro w' ⟨s0, s1, s2, s3, s4, s5⟩
   go_simp
   with_reducible rfl
  rotate_left
  ·simp only [Act.put, List.setIfInBounds_toArray, List.set_cons_zero, List.set_cons_succ, i64_w, i32_w]
   rfl
  refine take_ (i := 1) (N := some 13) (v := ?_) (a' := ?_) #[true, true, false, false, false, false, false, false] rfl rfl (take_ofW HT_.out HW_.out (by kernel_rfl)) (fun _ _ _ h => h) (Or.inl ⟨by rfl, ?_⟩) hHeld ?_ ?_
  rotate_left
  ·rintro w' ⟨s0, s1, s2, s3, s4, s5⟩
   go_simp
   with_reducible rfl
  rotate_left
  ·simp only [Act.put, List.setIfInBounds_toArray, List.set_cons_zero, List.set_cons_succ, i64_w, i32_w]
   rfl
  refine one_ (i := 2) (N := some 14) #[true, true, true, false, false, false, false, false] rfl rfl (one_of HT_.out (by kernel_rfl)) (by decide) (fun K hK => ?_)
  refine goes_ Tryz.func89 (by kernel_rfl) rfl #[.agg #[.bool a1_0, .slice A1_1 l1_1.length c1_1, .int .i64 a1_2]] (by rfl) rfl rfl eqA ?_
  with_reducible refine (dyad_Neg.calls a1_0 _ _ l1_1 a1_2 t197 t198 t201 _ ?side1 ?side2 A5.out).mono ?_
  (case side1 => repeat (first | exact (Kd.V_reads' HO1_1.out).2.2 | (with_reducible refine Kd.C_alloc ?_ _) | (with_reducible refine Kd.C_drewN ?_ _) | (with_reducible refine Kd.C_drew ?_)))
  (case side2 => exact (Kd.V_reads' HO1_1.out).2.1)
  rintro e w20 ⟨v199, rfl, ho0, hb⟩
  refine ⟨_, rfl, ?_⟩
  have n0_ := asd (Kd.V_elder' (by (with_reducible repeat (first | apply Kd.V_alloc | apply Kd.V_drewN | apply Kd.V_drew)); exact HO0_1.out) (Kd.R_base ho0) hb)
  have n1_ := asd (Kd.V_elder' (by (with_reducible repeat (first | apply Kd.V_alloc | apply Kd.V_drewN | apply Kd.V_drew)); exact HO1_1.out) (Kd.R_base ho0) hb)
  have n2_ := asd (Kd.N_elder' (by (with_reducible repeat (first | apply Kd.N_alloc | apply Kd.N_drewN | apply Kd.N_drew)); exact HO195.out) (Kd.R_base ho0) hb)
  have n3_ := asd (Kd.R_lower (Kd.R_newM (M := fun k_ => (w.heap.size ≤ k_)) ho0 (below_size hbs) (fun k_ h_ => h_)) (below_size hbs))
  have n4_ := asd (blk_below (g := gb190) (o := .cells #[.bool a0_0, .slice A0_1 l0_1.length c0_1, .int .i64 a0_2] 60 (0, 0)) (blkU BK190.out) hb)
  have n5_ := asd (blk_below (g := gb191) (o := .cells #[.bool a1_0, .slice A1_1 l1_1.length c1_1, .int .i64 a1_2] 60 (0, 0)) (blkU BK191.out) hb)
  have n6_ := asd (blk_below (g := gb192) (o := .cells #[.bool false, .slice none 0 0, .int .i64 0] 60 (0, 0)) (blkU BK192.out) hb)
  have n7_ := asd (below_step hbs hb)
  clear HO0_1
  clear HO1_1
  clear HO195
  clear BK190
  clear BK191
  clear BK192
  clear HB
  have HO0_1 := n0_
  have HO1_1 := n1_
  have HO195 := n2_
  have HO200 := n3_
  have BK190 := n4_
  have BK191 := n5_
  have BK192 := n6_
  have HB := n7_
  clear n0_ n1_ n2_ n3_ n4_ n5_ n6_ n7_
  (try clear hb)
  (try clear hb2)
  (try clear hk)
  (try clear hi)
  (try clear ho0)
  obtain ⟨Ao21, co21, eo21⟩ := Kd.R_slice HO200.out
  (first | subst eo21 | (injection eo21 with f1_ f2_ f3_; have f4_ := f1_.symm; have f5_ := f3_.symm; clear f1_ f2_ f3_; subst f4_; subst f5_))
  refine hK.out _ _ ⟨(blk_cell BK190.out 0).trans rfl, (blk_cell BK190.out 1).trans rfl, (blk_cell BK190.out 2).trans rfl, (blk_cell BK191.out 0).trans rfl, (blk_cell BK191.out 1).trans rfl, (blk_cell BK191.out 2).trans rfl⟩ (fun hHeld => ?_)
  clear hK K
  refine norm_ (a' := ?_) ?_ ?_
  rotate_left
  ·show Act.put _ (some 14) _ = _
   simp only [Act.put, List.setIfInBounds_toArray, List.set_cons_zero, List.set_cons_succ, i64_w, i32_w]
   rfl
  refine one_ (i := 3) (N := some 15) #[true, true, true, true, false, false, false, false] rfl rfl (one_of HT_.out (by kernel_rfl)) (by decide) (fun K hK => ?_)
  refine goes_ Tryz.func79 (by kernel_rfl) rfl #[.agg #[.bool a0_0, .slice A0_1 l0_1.length c0_1, .int .i64 a0_2], .agg #[.bool t197, .slice Ao21 t198.length co21, .int .i64 t201]] (by rfl) rfl rfl eqA ?_
  with_reducible refine (dyad_Add.calls a0_0 _ _ l0_1 a0_2 t197 _ _ t198 t201 t202 t203 t206 t207 _ ?side1 ?side2 ?side3 ?side4 A6.out).mono ?_
  (case side1 => repeat (first | exact (Kd.V_reads' HO0_1.out).2.2 | (with_reducible refine Kd.C_alloc ?_ _) | (with_reducible refine Kd.C_drewN ?_ _) | (with_reducible refine Kd.C_drew ?_)))
  (case side2 => exact (Kd.V_reads' HO0_1.out).2.1)
  (case side3 => repeat (first | exact (Kd.R_reads' HO200.out).2.2 | (with_reducible refine Kd.C_alloc ?_ _) | (with_reducible refine Kd.C_drewN ?_ _) | (with_reducible refine Kd.C_drew ?_)))
  (case side4 => exact (Kd.R_reads' HO200.out).2.1)
  rintro e w22 ⟨v204, rfl, ho0, hb⟩
  refine ⟨_, rfl, ?_⟩
  have n0_ := asd (Kd.V_elder' (by (with_reducible repeat (first | apply Kd.V_alloc | apply Kd.V_drewN | apply Kd.V_drew)); exact HO0_1.out) (Kd.R_base ho0) hb)
  have n1_ := asd (Kd.V_elder' (by (with_reducible repeat (first | apply Kd.V_alloc | apply Kd.V_drewN | apply Kd.V_drew)); exact HO1_1.out) (Kd.R_base ho0) hb)
  have n2_ := asd (Kd.N_elder' (by (with_reducible repeat (first | apply Kd.N_alloc | apply Kd.N_drewN | apply Kd.N_drew)); exact HO195.out) (Kd.R_base ho0) hb)
  have n3_ := asd (Kd.R_elder' (rUp HO200.out) (Kd.R_base ho0) hb)
  have n4_ := asd (Kd.R_lower (Kd.R_new' (Kd.R_newM (M := fun k_ => (w.heap.size ≤ k_)) ho0 (below_size hbs) (fun k_ h_ => h_)) (Kd.R_lt (rUp HO200.out))) (below_size hbs))
  have n5_ := asd (blk_below (g := gb190) (o := .cells #[.bool a0_0, .slice A0_1 l0_1.length c0_1, .int .i64 a0_2] 60 (0, 0)) (blkU BK190.out) hb)
  have n6_ := asd (blk_below (g := gb191) (o := .cells #[.bool a1_0, .slice A1_1 l1_1.length c1_1, .int .i64 a1_2] 60 (0, 0)) (blkU BK191.out) hb)
  have n7_ := asd (blk_below (g := gb192) (o := .cells #[.bool false, .slice none 0 0, .int .i64 0] 60 (0, 0)) (blkU BK192.out) hb)
  have n8_ := asd (below_step hbs hb)
  clear HO0_1
  clear HO1_1
  clear HO195
  clear HO200
  clear BK190
  clear BK191
  clear BK192
  clear HB
  have HO0_1 := n0_
  have HO1_1 := n1_
  have HO195 := n2_
  have HO200 := n3_
  have HO205 := n4_
  have BK190 := n5_
  have BK191 := n6_
  have BK192 := n7_
  have HB := n8_
  clear n0_ n1_ n2_ n3_ n4_ n5_ n6_ n7_ n8_
  (try clear hb)
  (try clear hb2)
  (try clear hk)
  (try clear hi)
  (try clear ho0)
  obtain ⟨Ao24, co24, eo24⟩ := Kd.R_slice HO205.out
  (first | subst eo24 | (injection eo24 with f1_ f2_ f3_; have f4_ := f1_.symm; have f5_ := f3_.symm; clear f1_ f2_ f3_; subst f4_; subst f5_))
  refine hK.out _ _ ⟨(blk_cell BK190.out 0).trans rfl, (blk_cell BK190.out 1).trans rfl, (blk_cell BK190.out 2).trans rfl, (blk_cell BK191.out 0).trans rfl, (blk_cell BK191.out 1).trans rfl, (blk_cell BK191.out 2).trans rfl⟩ (fun hHeld => ?_)
  clear hK K
  refine norm_ (a' := ?_) ?_ ?_
  rotate_left
  ·show Act.put _ (some 15) _ = _
   simp only [Act.put, List.setIfInBounds_toArray, List.set_cons_zero, List.set_cons_succ, i64_w, i32_w]
   rfl
  refine pure_ (i := 4) (N := some 16) (v := ?_) (a' := ?_) #[true, true, true, true, true, false, false, false] rfl rfl (any_of HT_.out (by kernel_rfl)) (fun _ _ _ h => h) (Or.inl ⟨by rfl, ?_⟩) ?_ ?_
  rotate_left
  ·intro w'
   go_simp
   with_reducible rfl
  rotate_left
  ·simp only [Act.put, List.setIfInBounds_toArray, List.set_cons_zero, List.set_cons_succ, i64_w, i32_w]
   rfl
  refine pure_ (i := 5) (N := some 17) (v := ?_) (a' := ?_) #[true, true, true, true, true, true, false, false] rfl rfl (any_of HT_.out (by kernel_rfl)) (fun _ _ _ h => h) (Or.inl ⟨by rfl, ?_⟩) ?_ ?_
  rotate_left
  ·intro w'
   go_simp
   with_reducible rfl
  rotate_left
  ·simp only [Act.put, List.setIfInBounds_toArray, List.set_cons_zero, List.set_cons_succ, i64_w, i32_w]
   rfl
  refine one_ (i := 6) (N := none) #[true, true, true, true, true, true, true, false] rfl rfl (one_of HT_.out (by kernel_rfl)) (by decide) (fun K hK => ?_)
  have hs23 : w22.cell? ⟨gb192, 0, none⟩ = some (.bool false) := (blk_cell BK192.out 0).trans rfl
  have hfs23 := blk_frozen BK192.out 0
  have hns23_0 := NB190_192.out
  have hns23_1 := NB191_192.out
  have hms23_0 := NB192_190.out
  have hms23_1 := NB192_191.out
  have hs25 : w22.cell? ⟨gb192, 1, none⟩ = some (.slice none 0 0) := (blk_cell BK192.out 1).trans rfl
  have hfs25 := blk_frozen BK192.out 1
  have hns25_0 := NB190_192.out
  have hns25_1 := NB191_192.out
  have hms25_0 := NB192_190.out
  have hms25_1 := NB192_191.out
  have hs26 : w22.cell? ⟨gb192, 2, none⟩ = some (.int .i64 0) := (blk_cell BK192.out 2).trans rfl
  have hfs26 := blk_frozen BK192.out 2
  have hns26_0 := NB190_192.out
  have hns26_1 := NB191_192.out
  have hms26_0 := NB192_190.out
  have hms26_1 := NB192_191.out
  refine skip_ (w1 := ?_) (by rfl) rfl ?_ ?_
  rotate_left
  ·go_simp
   rfl
  refine hK.out _ _ ⟨((cell_far (p := ⟨gb192, _, none⟩) NB190_192.out _).trans (((cell_far (p := ⟨gb192, _, none⟩) NB190_192.out _).trans (((cell_far (p := ⟨gb192, _, none⟩) NB190_192.out _).trans (hHeld.1)))))), ((cell_far (p := ⟨gb192, _, none⟩) NB190_192.out _).trans (((cell_far (p := ⟨gb192, _, none⟩) NB190_192.out _).trans (((cell_far (p := ⟨gb192, _, none⟩) NB190_192.out _).trans (hHeld.2.1)))))), ((cell_far (p := ⟨gb192, _, none⟩) NB190_192.out _).trans (((cell_far (p := ⟨gb192, _, none⟩) NB190_192.out _).trans (((cell_far (p := ⟨gb192, _, none⟩) NB190_192.out _).trans (hHeld.2.2.1)))))), ((cell_far (p := ⟨gb192, _, none⟩) NB191_192.out _).trans (((cell_far (p := ⟨gb192, _, none⟩) NB191_192.out _).trans (((cell_far (p := ⟨gb192, _, none⟩) NB191_192.out _).trans (hHeld.2.2.2.1)))))), ((cell_far (p := ⟨gb192, _, none⟩) NB191_192.out _).trans (((cell_far (p := ⟨gb192, _, none⟩) NB191_192.out _).trans (((cell_far (p := ⟨gb192, _, none⟩) NB191_192.out _).trans (hHeld.2.2.2.2.1)))))), ((cell_far (p := ⟨gb192, _, none⟩) NB191_192.out _).trans (((cell_far (p := ⟨gb192, _, none⟩) NB191_192.out _).trans (((cell_far (p := ⟨gb192, _, none⟩) NB191_192.out _).trans (hHeld.2.2.2.2.2))))))⟩ (fun hHeld => ?_)
  clear hK K
  refine pure_ (i := 7) (N := some 5) (v := ?_) (a' := ?_) #[true, true, true, true, true, true, true, true] rfl rfl (any_of HT_.out (by kernel_rfl)) (fun _ _ _ h => h) (Or.inl ⟨by rfl, ?_⟩) ?_ ?_
  rotate_left
  ·intro w'
   go_simp
   with_reducible rfl
  rotate_left
  ·simp only [Act.put, List.setIfInBounds_toArray, List.set_cons_zero, List.set_cons_succ, i64_w, i32_w]
   rfl
  refine done_ (done_of HT_.out (by kernel_rfl)) ?_
  try go_wp2
  refine bodyPost_ret (results_ct rfl _ _ gb192 60 #[.bool t202, .slice Ao24 t203.length co24, .int .i64 t206] (0, 0) _ rfl (by (with_reducible repeat (first | refine blk_drewN ?_ _ | refine blk_drew ?_ | refine blk_alloc ?_ _)); refine blk_put (cs := #[.bool t202, .slice Ao24 t203.length co24, .int .i64 0]) ?_ 2 _ rfl; (with_reducible repeat (first | refine blk_drewN ?_ _ | refine blk_drew ?_ | refine blk_alloc ?_ _)); refine blk_put (cs := #[.bool t202, .slice none 0 0, .int .i64 0]) ?_ 1 _ rfl; (with_reducible repeat (first | refine blk_drewN ?_ _ | refine blk_drew ?_ | refine blk_alloc ?_ _)); refine blk_put (cs := #[.bool false, .slice none 0 0, .int .i64 0]) ?_ 0 _ rfl; (with_reducible repeat (first | refine blk_drewN ?_ _ | refine blk_drew ?_ | refine blk_alloc ?_ _)); exact BK192.out) Tryz.underlying60 rfl (by kernel_rfl)) rfl ?_
  exact ⟨_, eqC, by (with_reducible repeat (first | apply Kd.R_alloc | apply Kd.R_drewN | apply Kd.R_drew)); exact Kd.R_mono (Kd.R_far (p := ⟨gb192, 2, none⟩) (Kd.R_far (p := ⟨gb192, 1, none⟩) (Kd.R_far (p := ⟨gb192, 0, none⟩) (Kd.R_types HO205.out BK192.out (by decide)) (fun _ hk => hk.2) (.bool t202)) (fun _ hk => hk.2) (.slice Ao24 t203.length co24)) (fun _ hk => hk.2) (.int .i64 t206)) (fun _ hk => hk.1.1.1), hbs⟩
 ·replace c4 := Bool.eq_false_iff.mpr c4
  subst c4
  rw [if_neg (show ¬ (false = true) by decide)] at H
  simp only [Option.some.injEq, Prod.mk.injEq] at H
  obtain ⟨rfl, rfl, rfl, rfl⟩ := H
  go_enter Tryz.func44, Tryz.ntmps44
  go_wp2_with (first | ((with_reducible refine gate_dst (N := 2) rfl ?_); refine box_event ?hg (N := 2) ?hd (cs := #[.bool a0_0, .slice A0_1 l0_1.length c0_1, .int .i64 a0_2]) (t := 60) ?hr ?_; (case hd => rfl); (case hg => rfl); (case hr => first | (go_simp; done) | (go_simp; rfl)); intro gb190 hg w27 hbox hb; have n0_ := asd (Kd.V_below (Kd.V_elderB (by (with_reducible repeat (first | apply Kd.V_alloc | apply Kd.V_drewN | apply Kd.V_drew)); exact HO0_1.out) gb190 (Nat.le_of_eq hg.symm)) hb); have n1_ := asd (Kd.V_below (Kd.V_elderB (by (with_reducible repeat (first | apply Kd.V_alloc | apply Kd.V_drewN | apply Kd.V_drew)); exact HO1_1.out) gb190 (Nat.le_of_eq hg.symm)) hb); have n2_ := asd (below_step hbw hb); have n3_ := asd (hbox); have n4_ := asd ((by rw [hg]; exact (below_size hbw) : w.heap.size ≤ gb190)); have n5_ := asd ((by rw [hg]; exact (below_size hbw) : w.heap.size ≤ gb190)); clear HO0_1; clear HO1_1; clear HB; have HO0_1 := n0_; have HO1_1 := n1_; have HB := n2_; have BK190 := n3_; have GW190 := n4_; have GE190 := n5_; clear n0_ n1_ n2_ n3_ n4_ n5_; clear hb hbox hg) | ((with_reducible refine gate_dst (N := 3) rfl ?_); refine box_event ?hg (N := 3) ?hd (cs := #[.bool a1_0, .slice A1_1 l1_1.length c1_1, .int .i64 a1_2]) (t := 60) ?hr ?_; (case hd => rfl); (case hg => rfl); (case hr => first | (go_simp; done) | (go_simp; rfl)); intro gb191 hg w28 hbox hb; have n0_ := asd (Kd.V_below (Kd.V_elderB (by (with_reducible repeat (first | apply Kd.V_alloc | apply Kd.V_drewN | apply Kd.V_drew)); exact HO0_1.out) gb191 (Nat.le_of_eq hg.symm)) hb); have n1_ := asd (Kd.V_below (Kd.V_elderB (by (with_reducible repeat (first | apply Kd.V_alloc | apply Kd.V_drewN | apply Kd.V_drew)); exact HO1_1.out) gb191 (Nat.le_of_eq hg.symm)) hb); have n2_ := asd (blk_below (g := gb190) (o := .cells #[.bool a0_0, .slice A0_1 l0_1.length c0_1, .int .i64 a0_2] 60 (0, 0)) (blkU BK190.out) hb); have n3_ := asd (below_step hbs hb); have n4_ := asd (hbox); have n5_ := asd ((by rw [hg]; exact (below_size hbs) : w.heap.size ≤ gb191)); have n6_ := asd ((by rw [hg]; exact (below_size hbs) : w.heap.size ≤ gb191)); have n7_ := asd ((by rw [hg]; exact Nat.ne_of_lt (blk_lt (g := gb190) (o := .cells #[.bool a0_0, .slice A0_1 l0_1.length c0_1, .int .i64 a0_2] 60 (0, 0)) (blkU BK190.out)) : gb190 ≠ gb191)); have n8_ := asd ((by rw [hg]; exact Nat.ne_of_gt (blk_lt (g := gb190) (o := .cells #[.bool a0_0, .slice A0_1 l0_1.length c0_1, .int .i64 a0_2] 60 (0, 0)) (blkU BK190.out)) : gb191 ≠ gb190)); clear HO0_1; clear HO1_1; clear BK190; clear HB; have HO0_1 := n0_; have HO1_1 := n1_; have BK190 := n2_; have HB := n3_; have BK191 := n4_; have GW191 := n5_; have GE191 := n6_; have NB190_191 := n7_; have NB191_190 := n8_; clear n0_ n1_ n2_ n3_ n4_ n5_ n6_ n7_ n8_; clear hb hbox hg) | ((with_reducible refine gate_dst (N := 4) rfl ?_); refine box_event ?hg (N := 4) ?hd (cs := #[.bool false, .slice none 0 0, .int .i64 0]) (t := 60) ?hr ?_; (case hd => rfl); (case hg => rfl); (case hr => first | (go_simp; done) | (go_simp; rfl)); intro gb192 hg w29 hbox hb; have n0_ := asd (Kd.V_below (Kd.V_elderB (by (with_reducible repeat (first | apply Kd.V_alloc | apply Kd.V_drewN | apply Kd.V_drew)); exact HO0_1.out) gb192 (Nat.le_of_eq hg.symm)) hb); have n1_ := asd (Kd.V_below (Kd.V_elderB (by (with_reducible repeat (first | apply Kd.V_alloc | apply Kd.V_drewN | apply Kd.V_drew)); exact HO1_1.out) gb192 (Nat.le_of_eq hg.symm)) hb); have n2_ := asd (blk_below (g := gb190) (o := .cells #[.bool a0_0, .slice A0_1 l0_1.length c0_1, .int .i64 a0_2] 60 (0, 0)) (blkU BK190.out) hb); have n3_ := asd (blk_below (g := gb191) (o := .cells #[.bool a1_0, .slice A1_1 l1_1.length c1_1, .int .i64 a1_2] 60 (0, 0)) (blkU BK191.out) hb); have n4_ := asd (below_step hbs hb); have n5_ := asd (hbox); have n6_ := asd ((by rw [hg]; exact (below_size hbs) : w.heap.size ≤ gb192)); have n7_ := asd ((by rw [hg]; exact (below_size hbs) : w.heap.size ≤ gb192)); have n8_ := asd ((by rw [hg]; exact Nat.ne_of_lt (blk_lt (g := gb190) (o := .cells #[.bool a0_0, .slice A0_1 l0_1.length c0_1, .int .i64 a0_2] 60 (0, 0)) (blkU BK190.out)) : gb190 ≠ gb192)); have n9_ := asd ((by rw [hg]; exact Nat.ne_of_gt (blk_lt (g := gb190) (o := .cells #[.bool a0_0, .slice A0_1 l0_1.length c0_1, .int .i64 a0_2] 60 (0, 0)) (blkU BK190.out)) : gb192 ≠ gb190)); have n10_ := asd ((by rw [hg]; exact Nat.ne_of_lt (blk_lt (g := gb191) (o := .cells #[.bool a1_0, .slice A1_1 l1_1.length c1_1, .int .i64 a1_2] 60 (0, 0)) (blkU BK191.out)) : gb191 ≠ gb192)); have n11_ := asd ((by rw [hg]; exact Nat.ne_of_gt (blk_lt (g := gb191) (o := .cells #[.bool a1_0, .slice A1_1 l1_1.length c1_1, .int .i64 a1_2] 60 (0, 0)) (blkU BK191.out)) : gb192 ≠ gb191)); clear HO0_1; clear HO1_1; clear BK190; clear BK191; clear HB; have HO0_1 := n0_; have HO1_1 := n1_; have BK190 := n2_; have BK191 := n3_; have HB := n4_; have BK192 := n5_; have GW192 := n6_; have GE192 := n7_; have NB190_192 := n8_; have NB192_190 := n9_; have NB191_192 := n10_; have NB192_191 := n11_; clear n0_ n1_ n2_ n3_ n4_ n5_ n6_ n7_ n8_ n9_ n10_ n11_; clear hb hbox hg; have hnb30 := NB190_191.out; have hnc30 := NB191_190.out; have hnb31 := NB190_192.out; have hnc31 := NB192_190.out; obtain ⟨hcz32_0, hcz32_1, hcz32_2, hfz32_0, hfz32_1, hfz32_2⟩ := cz3 BK190.out; have hnb33 := NB191_192.out; have hnc33 := NB192_191.out; obtain ⟨hcz34_0, hcz34_1, hcz34_2, hfz34_0, hfz34_1, hfz34_2⟩ := cz3 BK191.out) | ((with_reducible refine gate_dst (N := 8) rfl ?_); refine Kd.N_lit k60 _ 60 ?hg (N' := 8) ?hd (xs := ([(⟨a0_0, l0_1, a0_2⟩ : S60), (⟨a1_0, l1_1, a1_2⟩ : S60)] : List (S60))) (inner := [.bool a0_0, .slice A0_1 l0_1.length c0_1, .int .i64 a0_2, .bool a1_0, .slice A1_1 l1_1.length c1_1, .int .i64 a1_2]) (ok := (fun k_ => ((P0_1_ k_ ∨ P1_1_ k_) ∨ w.heap.size ≤ k_) ∧ k_ ≠ gb190 ∧ k_ ≠ gb191 ∧ k_ ≠ gb192)) (okp := (fun k_ => ((P0_1_ k_ ∨ P1_1_ k_) ∨ w.heap.size ≤ k_) ∧ k_ ≠ gb190 ∧ k_ ≠ gb191 ∧ k_ ≠ gb192)) ?hr ?hp (fun _ hk => hk) ((show ∀ k_, w29.heap.size ≤ k_ → (fun k_ => ((P0_1_ k_ ∨ P1_1_ k_) ∨ w.heap.size ≤ k_) ∧ k_ ≠ gb190 ∧ k_ ≠ gb191 ∧ k_ ≠ gb192) k_ from fun k_ hk => ⟨(.inr (Nat.le_trans (below_size hbs) hk)), Kd.freshB (g := gb190) (o := .cells #[.bool a0_0, .slice A0_1 l0_1.length c0_1, .int .i64 a0_2] 60 (0, 0)) (blkU BK190.out) k_ hk, Kd.freshB (g := gb191) (o := .cells #[.bool a1_0, .slice A1_1 l1_1.length c1_1, .int .i64 a1_2] 60 (0, 0)) (blkU BK191.out) k_ hk, Kd.freshB (g := gb192) (o := .cells #[.bool false, .slice none 0 0, .int .i64 0] 60 (0, 0)) (blkU BK192.out) k_ hk⟩) _ (Nat.le_refl _)) (Below.refl _ _) (Nat.le_refl _) (by simp) ?_; (case hd => rfl); (case hg => rfl); (case hr => first | (go_simp; done) | (go_simp; rfl)); (case hp => exact (Reps.c3 (show Kd.FK k60 _ _ (⟨a0_0, l0_1, a0_2⟩ : S60) [.bool a0_0, .slice A0_1 l0_1.length c0_1, .int .i64 a0_2] from (k60_mkF _ _ (⟨a0_0, l0_1, a0_2⟩ : S60) (Kd.V_reads' (Kd.V_mono (ok' := (fun k_ => ((P0_1_ k_ ∨ P1_1_ k_) ∨ w.heap.size ≤ k_) ∧ k_ ≠ gb190 ∧ k_ ≠ gb191 ∧ k_ ≠ gb192)) (HO0_1.out) (fun k_ hk => ⟨hk.1.1.1, ⟨hk.1.1.2, ⟨hk.1.2, hk.2⟩⟩⟩))).2.1 (Kd.V_F (Kd.V_mono (ok' := (fun k_ => ((P0_1_ k_ ∨ P1_1_ k_) ∨ w.heap.size ≤ k_) ∧ k_ ≠ gb190 ∧ k_ ≠ gb191 ∧ k_ ≠ gb192)) (HO0_1.out) (fun k_ hk => ⟨hk.1.1.1, ⟨hk.1.1.2, ⟨hk.1.2, hk.2⟩⟩⟩))))) (Reps.c3 (show Kd.FK k60 _ _ (⟨a1_0, l1_1, a1_2⟩ : S60) [.bool a1_0, .slice A1_1 l1_1.length c1_1, .int .i64 a1_2] from (k60_mkF _ _ (⟨a1_0, l1_1, a1_2⟩ : S60) (Kd.V_reads' (Kd.V_mono (ok' := (fun k_ => ((P0_1_ k_ ∨ P1_1_ k_) ∨ w.heap.size ≤ k_) ∧ k_ ≠ gb190 ∧ k_ ≠ gb191 ∧ k_ ≠ gb192)) (HO1_1.out) (fun k_ hk => ⟨hk.1.1.1, ⟨hk.1.1.2, ⟨hk.1.2, hk.2⟩⟩⟩))).2.1 (Kd.V_F (Kd.V_mono (ok' := (fun k_ => ((P0_1_ k_ ∨ P1_1_ k_) ∨ w.heap.size ≤ k_) ∧ k_ ≠ gb190 ∧ k_ ≠ gb191 ∧ k_ ≠ gb192)) (HO1_1.out) (fun k_ hk => ⟨hk.1.1.1, ⟨hk.1.1.2, ⟨hk.1.2, hk.2⟩⟩⟩))))) (Reps.none _ _)))); intro v194 w35 ho36 hb hg_ hnew_; clear hg_ hnew_; (first | rw [← Ny193.out] at ho36 | (simp only [Int.reduceToNat] at ho36; rw [← Ny193.out] at ho36)); have n0_ := asd (Kd.V_elder' (by (with_reducible repeat (first | apply Kd.V_alloc | apply Kd.V_drewN | apply Kd.V_drew)); exact HO0_1.out) (Kd.N_base ho36) hb); have n1_ := asd (Kd.V_elder' (by (with_reducible repeat (first | apply Kd.V_alloc | apply Kd.V_drewN | apply Kd.V_drew)); exact HO1_1.out) (Kd.N_base ho36) hb); have n2_ := asd (Kd.N_lower ho36 (below_size hbs)); have n3_ := asd (blk_below (g := gb190) (o := .cells #[.bool a0_0, .slice A0_1 l0_1.length c0_1, .int .i64 a0_2] 60 (0, 0)) (blkU BK190.out) hb); have n4_ := asd (blk_below (g := gb191) (o := .cells #[.bool a1_0, .slice A1_1 l1_1.length c1_1, .int .i64 a1_2] 60 (0, 0)) (blkU BK191.out) hb); have n5_ := asd (blk_below (g := gb192) (o := .cells #[.bool false, .slice none 0 0, .int .i64 0] 60 (0, 0)) (blkU BK192.out) hb); have n6_ := asd (below_step hbs hb); clear HO0_1; clear HO1_1; clear BK190; clear BK191; clear BK192; clear HB; have HO0_1 := n0_; have HO1_1 := n1_; have HO195 := n2_; have BK190 := n3_; have BK191 := n4_; have BK192 := n5_; have HB := n6_; clear n0_ n1_ n2_ n3_ n4_ n5_ n6_; clear hb ho36; obtain ⟨Ao37, co37, eo37⟩ := Kd.N_slice HO195.out; subst eo37) | ((with_reducible refine gate_callee (f := 88) rfl ?_); refine goesL_ (some 9) rfl rfl Tryz.func88 (by kernel_rfl) rfl #[.slice Ao37 y193.length co37] rfl eqA ?_; (with_reducible refine (dyad_valid.calls k _ _ y193 false _ ?side1 ?side2 A3.out).mono ?_); (case side1 => repeat (first | exact (Kd.N_reads' HO195.out).2.2 | (with_reducible refine Kd.C_alloc ?_ _) | (with_reducible refine Kd.C_drewN ?_ _) | (with_reducible refine Kd.C_drew ?_))); (case side2 => exact (Kd.N_reads' HO195.out).2.1); rintro e w38 ⟨rfl, hb⟩; refine ⟨_, rfl, ?_⟩; have n0_ := asd (Kd.V_below (by (with_reducible repeat (first | apply Kd.V_alloc | apply Kd.V_drewN | apply Kd.V_drew)); exact HO0_1.out) hb); have n1_ := asd (Kd.V_below (by (with_reducible repeat (first | apply Kd.V_alloc | apply Kd.V_drewN | apply Kd.V_drew)); exact HO1_1.out) hb); have n2_ := asd (Kd.N_below (by (with_reducible repeat (first | apply Kd.N_alloc | apply Kd.N_drewN | apply Kd.N_drew)); exact HO195.out) hb); have n3_ := asd (blk_below (g := gb190) (o := .cells #[.bool a0_0, .slice A0_1 l0_1.length c0_1, .int .i64 a0_2] 60 (0, 0)) (blkU BK190.out) hb); have n4_ := asd (blk_below (g := gb191) (o := .cells #[.bool a1_0, .slice A1_1 l1_1.length c1_1, .int .i64 a1_2] 60 (0, 0)) (blkU BK191.out) hb); have n5_ := asd (blk_below (g := gb192) (o := .cells #[.bool false, .slice none 0 0, .int .i64 0] 60 (0, 0)) (blkU BK192.out) hb); have n6_ := asd (below_step hbs hb); clear HO0_1; clear HO1_1; clear HO195; clear BK190; clear BK191; clear BK192; clear HB; have HO0_1 := n0_; have HO1_1 := n1_; have HO195 := n2_; have BK190 := n3_; have BK191 := n4_; have BK192 := n5_; have HB := n6_; clear n0_ n1_ n2_ n3_ n4_ n5_ n6_; (try clear hb); obtain ⟨hcz39_0, hcz39_1, hcz39_2, hfz39_0, hfz39_1, hfz39_2⟩ := cz3 BK192.out))
  refine bodyPost_ret (results_ct rfl _ _ gb192 60 #[.bool false, .slice none 0 0, .int .i64 0] (0, 0) _ rfl (by (with_reducible repeat (first | refine blk_drewN ?_ _ | refine blk_drew ?_ | refine blk_alloc ?_ _)); refine blk_put (cs := #[.bool false, .slice none 0 0, .int .i64 0]) ?_ 2 _ rfl; (with_reducible repeat (first | refine blk_drewN ?_ _ | refine blk_drew ?_ | refine blk_alloc ?_ _)); refine blk_put (cs := #[.bool false, .slice none 0 0, .int .i64 0]) ?_ 1 _ rfl; (with_reducible repeat (first | refine blk_drewN ?_ _ | refine blk_drew ?_ | refine blk_alloc ?_ _)); refine blk_put (cs := #[.bool false, .slice none 0 0, .int .i64 0]) ?_ 0 _ rfl; (with_reducible repeat (first | refine blk_drewN ?_ _ | refine blk_drew ?_ | refine blk_alloc ?_ _)); exact BK192.out) Tryz.underlying60 rfl (by kernel_rfl)) rfl ?_
  exact ⟨_, eqC, by first | exact Kd.R_nil _ _ _ _ _ | exact Kd.N_nil _ _ _ _ _ | exact Kd.V_nil _ _ _ _ _ | exact Kd.Q_nil _ _ _ _ _ | exact Kd.S_nil _ _ _ _ _, hbs⟩
def sums_num.f (a0 : Nat) : Option (Bool × List Int × Int) := (dyad_Of.f a0).bind fun bt209 => (some (bt209.1, bt209.2.1, bt209.2.2.1))
theorem sums_num.calls (a0 : Nat) (r1 : Bool) (r2 : List Int) (r3 : Int) (w : World) (h : sums_num.f a0 = some (r1, r2, r3)) (hL : Big.Laid w := by exact Big.Laid.step HL.out hbw) :
  Calls Tryz.prog 46 #[.float .f64 a0] w fun e w' => ∃ v1_ : Value, e = .returned (.agg #[.bool r1, v1_, .int .i64 r3]) ∧ Kd.R (Kd.int .u32) 83 w' w.heap.size (fun _ => True) v1_ r2 ∧ Below w.heap.size w w' := by
 have HL := asd hL
 clear hL
 have hu60 := Tryz.underlying60
 have HB := asd (Below.refl w.heap.size w)
 have H := h
 clear h
 unfold sums_num.f at H
 replace H := Option.bind_eq_some_iff.mp H
 obtain ⟨⟨t209, t210, t213, t214⟩, A20, H⟩ := H
 replace H : (some (t209, t210, t213)) = some (r1, r2, r3) := H
 have A2 := asd A20
 clear A20
 simp only [Option.some.injEq, Prod.mk.injEq] at H
 obtain ⟨rfl, rfl, rfl⟩ := H
 go_enter Tryz.func46, Tryz.ntmps46
 go_wp2_with (first | ((with_reducible refine gate_dst (N := 2) rfl ?_); refine box_ev (w := w) ?hg (N := 2) ?hd hbw (cs := #[.bool false, .slice none 0 0, .int .i64 0]) (t := 60) ?hr ?_; (case hd => rfl); (case hg => rfl); (case hr => first | (go_simp; done) | (go_simp; rfl)); clear HB; intro gb208 w3 HB BK208 GW208; have GE208 := GW208) | ((with_reducible refine gate_callee (f := 90) rfl ?_); refine goesL_ (some 7) rfl rfl Tryz.func90 (by kernel_rfl) rfl #[.float .f64 a0] rfl eqA ?_; (with_reducible refine (dyad_Of.calls a0 t209 t210 t213 t214 _ A2.out).mono ?_); rintro e w4 ⟨v211, rfl, ho0, hb⟩; refine ⟨_, rfl, ?_⟩; have n0_ := asd (Kd.R_lower ho0 (below_size hbs)); have n1_ := asd (blk_below (g := gb208) (o := .cells #[.bool false, .slice none 0 0, .int .i64 0] 60 (0, 0)) (blkU BK208.out) hb); have n2_ := asd (below_step hbs hb); clear BK208; clear HB; have HO212 := n0_; have BK208 := n1_; have HB := n2_; clear n0_ n1_ n2_; (try clear hb); (try clear ho0)) | ((with_reducible refine gate_dst (N := 3) rfl ?_); refine box_event ?hg (N := 3) ?hd (cs := #[.bool false, .slice none 0 0, .int .i64 0]) (t := 60) ?hr ?_; (case hd => rfl); (case hg => rfl); (case hr => first | (go_simp; done) | (go_simp; rfl)); intro gb215 hg w5 hbox hb; have n0_ := asd (Kd.R_below (rUp HO212.out) hb); have n1_ := asd (blk_below (g := gb208) (o := .cells #[.bool false, .slice none 0 0, .int .i64 0] 60 (0, 0)) (blkU BK208.out) hb); have n2_ := asd (below_step hbs hb); have n3_ := asd (hbox); have n4_ := asd ((by rw [hg]; exact (below_size hbs) : w.heap.size ≤ gb215)); have n5_ := asd ((by rw [hg]; exact (below_size hbs) : w.heap.size ≤ gb215)); have n6_ := asd ((by rw [hg]; exact Nat.ne_of_lt (blk_lt (g := gb208) (o := .cells #[.bool false, .slice none 0 0, .int .i64 0] 60 (0, 0)) (blkU BK208.out)) : gb208 ≠ gb215)); have n7_ := asd ((by rw [hg]; exact Nat.ne_of_gt (blk_lt (g := gb208) (o := .cells #[.bool false, .slice none 0 0, .int .i64 0] 60 (0, 0)) (blkU BK208.out)) : gb215 ≠ gb208)); clear HO212; clear BK208; clear HB; have HO212 := n0_; have BK208 := n1_; have HB := n2_; have BK215 := n3_; have GW215 := n4_; have GE215 := n5_; have NB208_215 := n6_; have NB215_208 := n7_; clear n0_ n1_ n2_ n3_ n4_ n5_ n6_ n7_; clear hb hbox hg; have hnb6 := NB215_208.out; have hnc6 := NB208_215.out; obtain ⟨hcz7_0, hcz7_1, hcz7_2, hfz7_0, hfz7_1, hfz7_2⟩ := cz3 BK215.out; obtain ⟨Ao8, co8, eo8⟩ := Kd.R_slice HO212.out; subst eo8; obtain ⟨hcz9_0, hcz9_1, hcz9_2, hfz9_0, hfz9_1, hfz9_2⟩ := cz3 BK208.out))
 refine bodyPost_ret (results_cell_row rfl _ _ gb208 60 #[.bool t209, .slice Ao8 t210.length co8, .int .i64 t213] (0, 0) _ rfl (by (with_reducible repeat (first | refine blk_drewN ?_ _ | refine blk_drew ?_ | refine blk_alloc ?_ _)); refine blk_put (cs := #[.bool t209, .slice Ao8 t210.length co8, .int .i64 0]) ?_ 2 _ rfl; (with_reducible repeat (first | refine blk_drewN ?_ _ | refine blk_drew ?_ | refine blk_alloc ?_ _)); refine blk_put (cs := #[.bool t209, .slice none 0 0, .int .i64 0]) ?_ 1 _ rfl; (with_reducible repeat (first | refine blk_drewN ?_ _ | refine blk_drew ?_ | refine blk_alloc ?_ _)); refine blk_put (cs := #[.bool false, .slice none 0 0, .int .i64 0]) ?_ 0 _ rfl; (with_reducible repeat (first | refine blk_drewN ?_ _ | refine blk_drew ?_ | refine blk_alloc ?_ _)); refine blk_far ?_ NB208_215.out _; (with_reducible repeat (first | refine blk_drewN ?_ _ | refine blk_drew ?_ | refine blk_alloc ?_ _)); refine blk_far ?_ NB208_215.out _; (with_reducible repeat (first | refine blk_drewN ?_ _ | refine blk_drew ?_ | refine blk_alloc ?_ _)); refine blk_far ?_ NB208_215.out _; (with_reducible repeat (first | refine blk_drewN ?_ _ | refine blk_drew ?_ | refine blk_alloc ?_ _)); exact BK208.out) Tryz.underlying60 rfl (by kernel_rfl)) rfl ?_
 exact ⟨_, eqC, by (with_reducible repeat (first | apply Kd.R_alloc | apply Kd.R_drewN | apply Kd.R_drew)); exact Kd.R_mono (Kd.R_far (p := ⟨gb208, 2, none⟩) (Kd.R_far (p := ⟨gb208, 1, none⟩) (Kd.R_far (p := ⟨gb208, 0, none⟩) (Kd.R_far (p := ⟨gb215, 2, none⟩) (Kd.R_far (p := ⟨gb215, 1, none⟩) (Kd.R_far (p := ⟨gb215, 0, none⟩) (Kd.R_types (Kd.R_types HO212.out BK215.out (by decide)) BK208.out (by decide)) (fun _ hk => hk.1.2) (.bool t209)) (fun _ hk => hk.1.2) (.slice Ao8 t210.length co8)) (fun _ hk => hk.1.2) (.int .i64 t213)) (fun _ hk => hk.2) (.bool t209)) (fun _ hk => hk.2) (.slice Ao8 t210.length co8)) (fun _ hk => hk.2) (.int .i64 t213)) (fun _ hk => trivial), hbs⟩
def sums_total.l0 : Nat → List Nat → Int → Int → Bool → List Int → Int → Option (Bool × List Int × Int)
 | 0, _, _, _, _, _, _ => none
 | k + 1, x6, x7, x8, x218000, x218001, x218002 => if x8 < x7 then (if 0 ≤ x8 then (if x8 < (x6.length : Int) then ((sums_num.f (rdOf (0 : Nat) x6 x8)).bind fun bt219 => ((dyad_Add.f x218000 x218001 x218002 bt219.1 bt219.2.1 bt219.2.2).bind fun bt224 => (sums_total.l0 k x6 x7 (wrap64 (x8 + 1)) bt224.1 bt224.2.1 bt224.2.2.1))) else (none)) else (none)) else (some (x218000, x218001, x218002))
def sums_total.f (k : Nat) (l0 : List Nat) : Option (Bool × List Int × Int) := sums_total.l0 k l0 (l0.length : Int) 0 false ([] : List Int) 0
def sums_total.T5 : Bool × List (List Nat × List Nat) := (true, [([], []), ([], []), ([1], [1]), ([0, 2, 2], [0, 2]), ([3], [3]), ([4], [4]), ([4], [4]), ([5, 3, 0, 1, 2, 3, 4, 5], [5])])
def sums_total.B5 : List Nat := [0, 0, 2, 7, 15, 31, 31, 63]
theorem sums_total.tab5 : rtab .any (opsOf Tryz.f45 5) = sums_total.T5 := by kernel_rfl
theorem sums_total.bits5 : waitsOk sums_total.T5.2 sums_total.B5 = true := by kernel_rfl
theorem sums_total.calls (k : Nat) (A0 : Option Addr) (c0 : Nat) (l0 : List Nat) (r1 : Bool) (r2 : List Int) (r3 : Int) (w : World) (hr0 : Kd.C Kd.float w A0 l0.length l0) (hc0 : l0.length ≤ c0) (h : sums_total.f k l0 = some (r1, r2, r3)) (hL : Big.Laid w := by exact Big.Laid.step HL.out hbw) :
  Calls Tryz.prog 45 #[.slice A0 l0.length c0] w fun e w' => ∃ v1_ : Value, e = .returned (.agg #[.bool r1, v1_, .int .i64 r3]) ∧ Kd.R (Kd.int .u32) 83 w' w.heap.size (fun _ => True) v1_ r2 ∧ Below w.heap.size w w' := by
 have HL := asd hL
 clear hL
 have hu60 := Tryz.underlying60
 have HR0 := asd hr0
 have HC0 := asd hc0
 clear hr0 hc0
 have HB := asd (Below.refl w.heap.size w)
 have H := h
 clear h
 unfold sums_total.f at H
 have H' := asd H
 clear H
 go_enter Tryz.func45, Tryz.ntmps45
 go_wp2_with (first | ((with_reducible refine gate_dst (N := 2) rfl ?_); refine box_ev (w := w) ?hg (N := 2) ?hd hbw (cs := #[.bool false, .slice none 0 0, .int .i64 0]) (t := 60) ?hr ?_; (case hd => rfl); (case hg => rfl); (case hr => first | (go_simp; done) | (go_simp; rfl)); clear HB; intro gb216 w2 HB BK216 GW216; have GE216 := GW216) | ((with_reducible refine gate_dst (N := 3) rfl ?_); refine box_event ?hg (N := 3) ?hd (cs := #[.bool false, .slice none 0 0, .int .i64 0]) (t := 60) ?hr ?_; (case hd => rfl); (case hg => rfl); (case hr => first | (go_simp; done) | (go_simp; rfl)); intro gb217 hg w3 hbox hb; have n0_ := asd (blk_below (g := gb216) (o := .cells #[.bool false, .slice none 0 0, .int .i64 0] 60 (0, 0)) (blkU BK216.out) hb); have n1_ := asd (below_step hbs hb); have n2_ := asd (hbox); have n3_ := asd ((by rw [hg]; exact (below_size hbs) : w.heap.size ≤ gb217)); have n4_ := asd ((by rw [hg]; exact (below_size hbs) : w.heap.size ≤ gb217)); have n5_ := asd ((by rw [hg]; exact Nat.ne_of_lt (blk_lt (g := gb216) (o := .cells #[.bool false, .slice none 0 0, .int .i64 0] 60 (0, 0)) (blkU BK216.out)) : gb216 ≠ gb217)); have n6_ := asd ((by rw [hg]; exact Nat.ne_of_gt (blk_lt (g := gb216) (o := .cells #[.bool false, .slice none 0 0, .int .i64 0] 60 (0, 0)) (blkU BK216.out)) : gb217 ≠ gb216)); clear BK216; clear HB; have BK216 := n0_; have HB := n1_; have BK217 := n2_; have GW217 := n3_; have GE217 := n4_; have NB216_217 := n5_; have NB217_216 := n6_; clear n0_ n1_ n2_ n3_ n4_ n5_ n6_; clear hb hbox hg))
 go_loopg [8] k (fun kq v8 w' => ∃ (x8_1 : Int) (x218000_1 : Bool) (x218001_1 : List Int) (x218002_1 : Int) (u218001 : Value), v8 = .int .i64 x8_1 ∧ Aside0 (sums_total.l0 kq l0 (l0.length : Int) x8_1 x218000_1 x218001_1 x218002_1 = some (r1, r2, r3)) ∧ Aside0 (kq ≤ k) ∧ Aside0 (Kd.R (Kd.int .u32) 83 w' w.heap.size (fun _ => True) u218001 x218001_1) ∧ Aside0 (w'.heap[gb216]? = some (.cells #[.bool false, (.slice none 0 0), .int .i64 0] 60 (0, 0))) ∧ Aside0 (w'.heap[gb217]? = some (.cells #[.bool x218000_1, u218001, .int .i64 x218002_1] 60 (0, 0))) ∧ Aside0 (Below w.heap.size w w'))
 case atStart => exact ⟨(0), (false), (([] : List Int)), (0), (.slice none 0 0), eqB, H', ⟨Nat.le_refl _⟩, ⟨by first | exact Kd.R_nil _ _ _ _ _ | exact Kd.N_nil _ _ _ _ _ | exact Kd.V_nil _ _ _ _ _ | exact Kd.Q_nil _ _ _ _ _ | exact Kd.S_nil _ _ _ _ _⟩, ⟨by (with_reducible repeat (first | refine blk_drewN ?_ _ | refine blk_drew ?_ | refine blk_alloc ?_ _)); exact BK216.out⟩, ⟨by (with_reducible repeat (first | refine blk_drewN ?_ _ | refine blk_drew ?_ | refine blk_alloc ?_ _)); exact BK217.out⟩, ⟨hbs⟩⟩
 case round =>
  clear H'
  try clear p2
  obtain ⟨x8_1, x218000_1, x218001_1, x218002_1, u218001, rfl, HA, HK1, HO_218001, BK216, BK217, HB⟩ := hrel
  cases gk with
  | zero => exact absurd HA.out (by simp [sums_total.l0])
  | succ k1 =>
   have H := HA.out
   clear HA
   simp only [sums_total.l0] at H
   by_cases c4 : x8_1 < (l0.length : Int)
   ·rw [if_pos c4] at H
    have c4b0 := decide_eq_true c4
    clear c4
    by_cases c5 : 0 ≤ x8_1
    ·rw [if_pos c5] at H
     have c5b0 := decide_eq_true c5
     clear c5
     by_cases c6 : x8_1 < (l0.length : Int)
     ·rw [if_pos c6] at H
      have c6b0 := decide_eq_true c6
      clear c6
      replace H := Option.bind_eq_some_iff.mp H
      obtain ⟨⟨t219, t220, t223⟩, A70, H⟩ := H
      replace H : ((dyad_Add.f x218000_1 x218001_1 x218002_1 t219 t220 t223).bind fun bt224 => (sums_total.l0 k1 l0 (l0.length : Int) (wrap64 (x8_1 + 1)) bt224.1 bt224.2.1 bt224.2.2.1)) = some (r1, r2, r3) := H
      have A7 := asd A70
      clear A70
      replace H := Option.bind_eq_some_iff.mp H
      obtain ⟨⟨t224, t225, t228, t229⟩, A80, H⟩ := H
      replace H : (sums_total.l0 k1 l0 (l0.length : Int) (wrap64 (x8_1 + 1)) t224 t225 t228) = some (r1, r2, r3) := H
      have A8 := asd A80
      clear A80
      have H' := asd H
      clear H
      have p218 : 0 ≤ (x8_1 : Int) := odt
      have q218 : x8_1 < (l0.length : Int) := odt
      obtain ⟨ad218, e218, hx218_0⟩ := Kd.at_float HR0.out x8_1 p218 q218
      cases e218
      replace hx218_0 := (HB.out.cell (World.block_lt_of_cell? w _ hx218_0)).trans hx218_0
      replace p218 := eq_true p218
      replace q218 := eq_true q218
      try go_wp2
      have n0_ := asd (Kd.R_drew HO_218001.out)
      have n1_ := asd (blk_drew BK216.out)
      have n2_ := asd (blk_drew BK217.out)
      have n3_ := asd (below_drew1 HB.out)
      clear HO_218001
      clear BK216
      clear BK217
      clear HB
      have HO_218001 := n0_
      have BK216 := n1_
      have BK217 := n2_
      have HB := n3_
      clear n0_ n1_ n2_ n3_
      refine start_ (n := 8) (S := fun w' => w'.cell? ⟨gb217, 0, none⟩ = some (.bool x218000_1) ∧ w'.cell? ⟨gb217, 1, none⟩ = some (u218001) ∧ w'.cell? ⟨gb217, 2, none⟩ = some (.int .i64 x218002_1)) (ds := [7]) #[false, false, false, false, false, false, false, false] (by kernel_rfl) rfl rfl ⟨(blk_cell BK217.out 0).trans rfl, (blk_cell BK217.out 1).trans rfl, (blk_cell BK217.out 2).trans rfl⟩ (fun hHeld => ?_); refine with_tabW sums_total.tab5 sums_total.bits5 (fun HT_ HW_ => ?_)
      generalize wr.drew = w9 at HO_218001 BK216 BK217 HB hHeld ⊢
      refine pure_ (i := 1) (N := some 14) (v := ?_) (a' := ?_) #[false, true, false, false, false, false, false, false] rfl rfl (any_of HT_.out (by kernel_rfl)) (fun _ _ _ h => h) (Or.inl ⟨by rfl, ?_⟩) ?_ ?_
      rotate_left
      ·intro w'
       go_simp
       with_reducible rfl
      rotate_left
      ·simp only [Act.put, List.setIfInBounds_toArray, List.set_cons_zero, List.set_cons_succ, i64_w, i32_w]
       rfl
      refine take_ (i := 0) (N := some 13) (v := ?_) (a' := ?_) #[true, true, false, false, false, false, false, false] rfl rfl (take_ofW HT_.out HW_.out (by kernel_rfl)) (fun _ _ _ h => h) (Or.inl ⟨by rfl, ?_⟩) hHeld ?_ ?_
      rotate_left
      ·rintro w' ⟨s0, s1, s2⟩
       go_simp
       with_reducible rfl
      rotate_left
      ·simp only [Act.put, List.setIfInBounds_toArray, List.set_cons_zero, List.set_cons_succ, i64_w, i32_w]
       rfl
      refine one_ (i := 2) (N := some 15) #[true, true, true, false, false, false, false, false] rfl rfl (one_of HT_.out (by kernel_rfl)) (by decide) (fun K hK => ?_)
      refine goes_ Tryz.func46 (by kernel_rfl) rfl #[.float .f64 (rdOf (0 : Nat) l0 x8_1)] (by rfl) rfl rfl eqA ?_
      with_reducible refine (sums_num.calls (rdOf (0 : Nat) l0 x8_1) t219 t220 t223 _ A7.out).mono ?_
      rintro e w10 ⟨v221, rfl, ho0, hb⟩
      refine ⟨_, rfl, ?_⟩
      have n0_ := asd (Kd.R_elder' (rUp HO_218001.out) (Kd.R_base ho0) hb)
      have n1_ := asd (Kd.R_lower (Kd.R_new' ho0 (Kd.R_lt (rUp HO_218001.out))) (below_size hbs))
      have n2_ := asd (blk_below (g := gb216) (o := .cells #[.bool false, .slice none 0 0, .int .i64 0] 60 (0, 0)) (blkU BK216.out) hb)
      have n3_ := asd (blk_below (g := gb217) (o := .cells #[.bool x218000_1, u218001, .int .i64 x218002_1] 60 (0, 0)) (blkU BK217.out) hb)
      have n4_ := asd (below_step hbs hb)
      clear HO_218001
      clear BK216
      clear BK217
      clear HB
      have HO_218001 := n0_
      have HO222 := n1_
      have BK216 := n2_
      have BK217 := n3_
      have HB := n4_
      clear n0_ n1_ n2_ n3_ n4_
      (try clear hb)
      (try clear hb2)
      (try clear hk)
      (try clear hi)
      (try clear ho0)
      obtain ⟨Ao11, co11, eo11⟩ := Kd.R_slice HO_218001.out
      (first | subst eo11 | (injection eo11 with f1_ f2_ f3_; have f4_ := f1_.symm; have f5_ := f3_.symm; clear f1_ f2_ f3_; subst f4_; subst f5_))
      obtain ⟨Ao12, co12, eo12⟩ := Kd.R_slice HO222.out
      (first | subst eo12 | (injection eo12 with f1_ f2_ f3_; have f4_ := f1_.symm; have f5_ := f3_.symm; clear f1_ f2_ f3_; subst f4_; subst f5_))
      refine hK.out _ _ ⟨(blk_cell BK217.out 0).trans rfl, (blk_cell BK217.out 1).trans rfl, (blk_cell BK217.out 2).trans rfl⟩ (fun hHeld => ?_)
      clear hK K
      refine norm_ (a' := ?_) ?_ ?_
      rotate_left
      ·show Act.put _ (some 15) _ = _
       simp only [Act.put, List.setIfInBounds_toArray, List.set_cons_zero, List.set_cons_succ, i64_w, i32_w]
       rfl
      refine one_ (i := 3) (N := some 16) #[true, true, true, true, false, false, false, false] rfl rfl (one_of HT_.out (by kernel_rfl)) (by decide) (fun K hK => ?_)
      refine goes_ Tryz.func79 (by kernel_rfl) rfl #[.agg #[.bool x218000_1, .slice Ao11 x218001_1.length co11, .int .i64 x218002_1], .agg #[.bool t219, .slice Ao12 t220.length co12, .int .i64 t223]] (by rfl) rfl rfl eqA ?_
      with_reducible refine (dyad_Add.calls x218000_1 _ _ x218001_1 x218002_1 t219 _ _ t220 t223 t224 t225 t228 t229 _ ?side1 ?side2 ?side3 ?side4 A8.out).mono ?_
      (case side1 => repeat (first | exact (Kd.R_reads' HO_218001.out).2.2 | (with_reducible refine Kd.C_alloc ?_ _) | (with_reducible refine Kd.C_drewN ?_ _) | (with_reducible refine Kd.C_drew ?_)))
      (case side2 => exact (Kd.R_reads' HO_218001.out).2.1)
      (case side3 => repeat (first | exact (Kd.R_reads' HO222.out).2.2 | (with_reducible refine Kd.C_alloc ?_ _) | (with_reducible refine Kd.C_drewN ?_ _) | (with_reducible refine Kd.C_drew ?_)))
      (case side4 => exact (Kd.R_reads' HO222.out).2.1)
      rintro e w13 ⟨v226, rfl, ho0, hb⟩
      refine ⟨_, rfl, ?_⟩
      have n0_ := asd (Kd.R_elder' (rUp HO_218001.out) (Kd.R_base ho0) hb)
      have n1_ := asd (Kd.R_elder' (rUp HO222.out) (Kd.R_base ho0) hb)
      have n2_ := asd (Kd.R_lower (Kd.R_new' (Kd.R_new' ho0 (Kd.R_lt (rUp HO_218001.out))) (Kd.R_lt (rUp HO222.out))) (below_size hbs))
      have n3_ := asd (blk_below (g := gb216) (o := .cells #[.bool false, .slice none 0 0, .int .i64 0] 60 (0, 0)) (blkU BK216.out) hb)
      have n4_ := asd (blk_below (g := gb217) (o := .cells #[.bool x218000_1, .slice Ao11 x218001_1.length co11, .int .i64 x218002_1] 60 (0, 0)) (blkU BK217.out) hb)
      have n5_ := asd (below_step hbs hb)
      clear HO_218001
      clear HO222
      clear BK216
      clear BK217
      clear HB
      have HO_218001 := n0_
      have HO222 := n1_
      have HO227 := n2_
      have BK216 := n3_
      have BK217 := n4_
      have HB := n5_
      clear n0_ n1_ n2_ n3_ n4_ n5_
      (try clear hb)
      (try clear hb2)
      (try clear hk)
      (try clear hi)
      (try clear ho0)
      obtain ⟨Ao15, co15, eo15⟩ := Kd.R_slice HO227.out
      (first | subst eo15 | (injection eo15 with f1_ f2_ f3_; have f4_ := f1_.symm; have f5_ := f3_.symm; clear f1_ f2_ f3_; subst f4_; subst f5_))
      refine hK.out _ _ ⟨(blk_cell BK217.out 0).trans rfl, (blk_cell BK217.out 1).trans rfl, (blk_cell BK217.out 2).trans rfl⟩ (fun hHeld => ?_)
      clear hK K
      refine norm_ (a' := ?_) ?_ ?_
      rotate_left
      ·show Act.put _ (some 16) _ = _
       simp only [Act.put, List.setIfInBounds_toArray, List.set_cons_zero, List.set_cons_succ, i64_w, i32_w]
       rfl
      refine pure_ (i := 4) (N := some 12) (v := ?_) (a' := ?_) #[true, true, true, true, true, false, false, false] rfl rfl (any_of HT_.out (by kernel_rfl)) (fun _ _ _ h => h) (Or.inl ⟨by rfl, ?_⟩) ?_ ?_
      rotate_left
      ·intro w'
       go_simp
       with_reducible rfl
      rotate_left
      ·simp only [Act.put, List.setIfInBounds_toArray, List.set_cons_zero, List.set_cons_succ, i64_w, i32_w]
       rfl
      refine pure_ (i := 5) (N := some 17) (v := ?_) (a' := ?_) #[true, true, true, true, true, true, false, false] rfl rfl (any_of HT_.out (by kernel_rfl)) (fun _ _ _ h => h) (Or.inl ⟨by rfl, ?_⟩) ?_ ?_
      rotate_left
      ·intro w'
       go_simp
       with_reducible rfl
      rotate_left
      ·simp only [Act.put, List.setIfInBounds_toArray, List.set_cons_zero, List.set_cons_succ, i64_w, i32_w]
       rfl
      refine pure_ (i := 6) (N := some 18) (v := ?_) (a' := ?_) #[true, true, true, true, true, true, true, false] rfl rfl (any_of HT_.out (by kernel_rfl)) (fun _ _ _ h => h) (Or.inl ⟨by rfl, ?_⟩) ?_ ?_
      rotate_left
      ·intro w'
       go_simp
       with_reducible rfl
      rotate_left
      ·simp only [Act.put, List.setIfInBounds_toArray, List.set_cons_zero, List.set_cons_succ, i64_w, i32_w]
       rfl
      refine last_ (i := 7) (N := none) #[true, true, true, true, true, true, true, true] rfl rfl (one_of HT_.out (by kernel_rfl)) (by decide) (fun K hK => ?_)
      have hs14 : w13.cell? ⟨gb217, 0, none⟩ = some (.bool x218000_1) := (blk_cell BK217.out 0).trans rfl
      have hfs14 := blk_frozen BK217.out 0
      have hns14_0 := NB216_217.out
      have hms14_0 := NB217_216.out
      have hs16 : w13.cell? ⟨gb217, 1, none⟩ = some (.slice Ao11 x218001_1.length co11) := (blk_cell BK217.out 1).trans rfl
      have hfs16 := blk_frozen BK217.out 1
      have hns16_0 := NB216_217.out
      have hms16_0 := NB217_216.out
      have hs17 : w13.cell? ⟨gb217, 2, none⟩ = some (.int .i64 x218002_1) := (blk_cell BK217.out 2).trans rfl
      have hfs17 := blk_frozen BK217.out 2
      have hns17_0 := NB216_217.out
      have hms17_0 := NB217_216.out
      refine skip_ (w1 := ?_) (by rfl) rfl ?_ ?_
      rotate_left
      ·go_simp
       rfl
      refine hK.out _ _ ?_
      clear hK K
      refine done_ (done_of HT_.out (by kernel_rfl)) ?_
      try go_wp2
      go_roundg k1
      case measure => have := HK1.out; omega
      case rel => exact ⟨(wrap64 (x8_1 + 1)), (t224), (t225), (t228), (.slice Ao15 t225.length co15), eqB, H', ⟨by have := HK1.out; omega⟩, ⟨by (with_reducible repeat (first | apply Kd.R_alloc | apply Kd.R_drewN | apply Kd.R_drew)); exact Kd.R_mono (Kd.R_far (p := ⟨gb217, 2, none⟩) (Kd.R_far (p := ⟨gb217, 1, none⟩) (Kd.R_far (p := ⟨gb217, 0, none⟩) (Kd.R_types HO227.out BK217.out (by decide)) (fun _ hk => hk.2) (.bool t224)) (fun _ hk => hk.2) (.slice Ao15 t225.length co15)) (fun _ hk => hk.2) (.int .i64 t228)) (fun _ hk => trivial)⟩, ⟨by (with_reducible repeat (first | refine blk_drewN ?_ _ | refine blk_drew ?_ | refine blk_alloc ?_ _)); refine blk_far ?_ NB216_217.out _; (with_reducible repeat (first | refine blk_drewN ?_ _ | refine blk_drew ?_ | refine blk_alloc ?_ _)); refine blk_far ?_ NB216_217.out _; (with_reducible repeat (first | refine blk_drewN ?_ _ | refine blk_drew ?_ | refine blk_alloc ?_ _)); refine blk_far ?_ NB216_217.out _; (with_reducible repeat (first | refine blk_drewN ?_ _ | refine blk_drew ?_ | refine blk_alloc ?_ _)); exact BK216.out⟩, ⟨by (with_reducible repeat (first | refine blk_drewN ?_ _ | refine blk_drew ?_ | refine blk_alloc ?_ _)); refine blk_put (cs := #[.bool t224, .slice Ao15 t225.length co15, .int .i64 x218002_1]) ?_ 2 _ rfl; (with_reducible repeat (first | refine blk_drewN ?_ _ | refine blk_drew ?_ | refine blk_alloc ?_ _)); refine blk_put (cs := #[.bool t224, .slice Ao11 x218001_1.length co11, .int .i64 x218002_1]) ?_ 1 _ rfl; (with_reducible repeat (first | refine blk_drewN ?_ _ | refine blk_drew ?_ | refine blk_alloc ?_ _)); refine blk_put (cs := #[.bool x218000_1, .slice Ao11 x218001_1.length co11, .int .i64 x218002_1]) ?_ 0 _ rfl; (with_reducible repeat (first | refine blk_drewN ?_ _ | refine blk_drew ?_ | refine blk_alloc ?_ _)); exact BK217.out⟩, ⟨hbs⟩⟩
     ·rw [if_neg c6] at H
      exact absurd H (by simp)
    ·rw [if_neg c5] at H
     exact absurd H (by simp)
   ·rw [if_neg c4] at H
    have c4b0 := decide_eq_false c4
    clear c4
    simp only [Option.some.injEq, Prod.mk.injEq] at H
    obtain ⟨rfl, rfl, rfl⟩ := H
    have hnb18 := NB217_216.out
    have hnc18 := NB216_217.out
    obtain ⟨hcz19_0, hcz19_1, hcz19_2, hfz19_0, hfz19_1, hfz19_2⟩ := cz3 BK217.out
    obtain ⟨hcz20_0, hcz20_1, hcz20_2, hfz20_0, hfz20_1, hfz20_2⟩ := cz3 BK216.out
    obtain ⟨Ao21, co21, eo21⟩ := Kd.R_slice HO_218001.out
    subst eo21
    go_wp2
    refine bodyPost_ret (results_cell_row rfl _ _ gb216 60 #[.bool x218000_1, .slice Ao21 x218001_1.length co21, .int .i64 x218002_1] (0, 0) _ rfl (by (with_reducible repeat (first | refine blk_drewN ?_ _ | refine blk_drew ?_ | refine blk_alloc ?_ _)); refine blk_put (cs := #[.bool x218000_1, .slice Ao21 x218001_1.length co21, .int .i64 0]) ?_ 2 _ rfl; (with_reducible repeat (first | refine blk_drewN ?_ _ | refine blk_drew ?_ | refine blk_alloc ?_ _)); refine blk_put (cs := #[.bool x218000_1, .slice none 0 0, .int .i64 0]) ?_ 1 _ rfl; (with_reducible repeat (first | refine blk_drewN ?_ _ | refine blk_drew ?_ | refine blk_alloc ?_ _)); refine blk_put (cs := #[.bool false, .slice none 0 0, .int .i64 0]) ?_ 0 _ rfl; (with_reducible repeat (first | refine blk_drewN ?_ _ | refine blk_drew ?_ | refine blk_alloc ?_ _)); exact BK216.out) Tryz.underlying60 rfl (by kernel_rfl)) rfl ?_
    exact ⟨_, eqC, by (with_reducible repeat (first | apply Kd.R_alloc | apply Kd.R_drewN | apply Kd.R_drew)); exact Kd.R_mono (Kd.R_far (p := ⟨gb216, 2, none⟩) (Kd.R_far (p := ⟨gb216, 1, none⟩) (Kd.R_far (p := ⟨gb216, 0, none⟩) (Kd.R_types HO_218001.out BK216.out (by decide)) (fun _ hk => hk.2) (.bool x218000_1)) (fun _ hk => hk.2) (.slice Ao21 x218001_1.length co21)) (fun _ hk => hk.2) (.int .i64 x218002_1)) (fun _ hk => trivial), hbs⟩
def sums_Two.j0 : Nat → Nat → Nat → Nat → Bool → Option (Nat × Nat)
 | 0, _, _, _, _ => none
 | k + 1, x0, x1, x6, x20 => if x20 = true then (some (x6, (0 : Nat))) else ((sums_total.f k (([x0, x1] : List Nat))).bind fun bt235 => ((sums_num.f x6).bind fun bt240 => ((dyad_Sub.f k bt235.1 bt235.2.1 bt235.2.2 bt240.1 bt240.2.1 bt240.2.2).bind fun bt245 => ((dyad_Round.f bt245.1 bt245.2.1 bt245.2.2.1 2).bind fun bt252 => (some (x6, bt252.1))))))
def sums_Two.f (k : Nat) (a0 : Nat) (a1 : Nat) : Option (Nat × Nat) := (sums_near.f k a0 a1).bind fun t230 => (if ((FloatKind.f64.format.order t230 t230) != some .eq) = true then (sums_Two.j0 k a0 a1 t230 true) else ((math_IsInf.f t230 0).bind fun t231 => (sums_Two.j0 k a0 a1 t230 t231)))
end Go.Proofs.YthmeocigliephaaGreatDoor.PSu
end
section
namespace Go.Proofs.YthmeocigliephaaGreatDoor.Big
open Go.Proofs.YthmeocigliephaaGreatDoor.PSu Go.Proofs.YthmeocigliephaaGreatDoor.Plain
def faultL (l : List Nat) : Int := if 65536 < l.length then 2 else if l.any nanB = true then 4 else if l.any infB? = true then 5 else 0
theorem faultL_eq (A : Option Addr) (c : Nat) (l : List Nat) : faultF [(A, c, l)] = faultL l := by
  unfold faultF faultL
  simp only [List.any_cons, List.any_nil, Bool.or_false, longB, scanF, Bool.false_or]
  by_cases h : 65536 < l.length
  · rw [if_pos h, if_pos (decide_eq_true h)]
  · rw [if_neg h, if_neg (by simpa using h)]
theorem fault_one (g : Nat) (A : Option Addr) (c : Nat) (l : List Nat) (q : Int) (w : World) (hg : w.cell? ⟨g, 0, none⟩ = some (.slice A l.length c)) (hr : Kd.C Kd.float w A l.length l) (hc : l.length ≤ c) (hn : l.length < 4611686018427387904) (hq : faultL l = q) :
    Calls Tryz.prog 50 #[.slice (some ⟨g, 0, none⟩) 1 1] w fun e w' => e = .returned (.int .i64 q) ∧ Below w.heap.size w w' := by
  have h := fault_any g [(A, c, l)] w
    (fun i hi => by
      obtain rfl : i = 0 := Nat.lt_one_iff.1 hi
      exact hg)
    (fun i hi => by
      obtain rfl : i = 0 := Nat.lt_one_iff.1 hi
      exact ⟨hr, hc, hn⟩) (by simp)
  rw [faultL_eq, hq] at h
  exact h
def exactW (l : List Nat) (mode : Int) (T : Bool × List Int × Int) : Nat × Int :=
  if 1 ≤ mode ∧ mode ≤ 3 then
    (if faultL l = 0 then
      (if T.2.1.length = 0 then (if 0 < l.length ∧ l.any oneB = false then (9223372036854775808, 0) else (0, 0)) else roundN T.1 T.2.1 T.2.2 mode)
     else (0, faultL l))
  else (0, 1)
theorem round_yes {m : Int} (h : 1 ≤ m ∧ m ≤ 3) : round_Valid.f m = some 0 := by
  unfold round_Valid.f
  by_cases h1 : m = 1
  · rw [if_pos h1]
  · by_cases h2 : m = 2
    · rw [if_neg h1, if_pos h2]
    · rw [if_neg h1, if_neg h2, if_pos (by omega)]
theorem round_no {m : Int} (h : ¬ (1 ≤ m ∧ m ≤ 3)) : round_Valid.f m = some 1 := by
  unfold round_Valid.f
  rw [if_neg (by omega), if_neg (by omega), if_neg (by omega)]
theorem sign_law {n : Bool} {m : List Int} {e : Int} (h : IsN n m e) : dyad_Sign.f 1 n m e = some (if m.length = 0 then (0 : Int) else if n = true then -1 else 1) := by
  unfold dyad_Sign.f
  rw [show PSu.dyad_Valid.f n m e = some true from h.1, Option.bind_some, if_pos rfl]
  simp only [dyad_Sign.j0]
  by_cases hm : m.length = 0
  · rw [if_pos hm, if_pos (by simp [List.length_eq_zero_iff.1 hm])]
  · rw [if_neg hm, if_neg (by simp; exact fun h => hm (by rw [h]; rfl))]
    split <;> rfl
section
variable (A : Option Addr) (c : Nat) (l : List Nat) (mode : Int) (w : World) (hr : Kd.C Kd.float w A l.length l) (hc : l.length ≤ c) (hn : l.length < 4611686018427387904) (hL : Laid w)
include hr hc hn hL
theorem exact_mode (hm : ¬ (1 ≤ mode ∧ mode ≤ 3))
    : Calls Tryz.prog 22 #[.slice A l.length c, .int .i64 mode] w (RetF (0, 1) w) := by
  have HR := asd hr
  have HC := asd hc
  have HL := asd hL
  have HN := asd hn
  have RV := asd (round_no hm)
  clear hr hc hn hL hm
  go_enter Tryz.func22, Tryz.ntmps22
  go_wp2_with (first
    | (go_at_call 49; refine (round_Valid.calls mode 1 _ RV.out).mono ?_; rintro e w1 ⟨rfl, d⟩; have HB := asd d.below; clear d))
  go_ret2
  exact ⟨rfl, HB.out⟩
theorem exact_fault (hm : 1 ≤ mode ∧ mode ≤ 3) (q : Int) (hq : faultL l = q) (hq0 : q ≠ 0)
    : Calls Tryz.prog 22 #[.slice A l.length c, .int .i64 mode] w (RetF (0, q) w) := by
  have HR := asd hr
  have HC := asd hc
  have HL := asd hL
  have HN := asd hn
  have RV := asd (round_yes hm)
  have HF := asd hq
  have hq1 : (q != 0) = true := by simpa using hq0
  clear hr hc hn hL hm hq hq0
  go_enter Tryz.func22, Tryz.ntmps22
  go_wp2_with (first
    | (go_at_call 49; refine (round_Valid.calls mode 0 _ RV.out).mono ?_; rintro e w1 ⟨rfl, d⟩; have HB := asd d.below; clear d)
    | (go_at_call 50; refine (fault_one _ A c l q _ (by exact blk_cell (blk_new _ _) 0) (Kd.C_below HR.out (by exact HB.out.alloc HB.out.size _)) HC.out HN.out HF.out).mono ?_; rintro e w2 ⟨rfl, d⟩; have HB2 := asd (below_post d (HB.out.alloc HB.out.size _)); clear d))
  go_ret2
  exact ⟨rfl, HB2.out⟩
theorem exact_empty (hm : 1 ≤ mode ∧ mode ≤ 3) (hq : faultL l = 0) (k : Nat) (n : Bool) (m : List Int) (ex : Int) (tt : sums_total.f k l = some (n, m, ex)) (tn : IsN n m ex) (hz : m.length = 0) (hl : l.length = 0)
    : Calls Tryz.prog 22 #[.slice A l.length c, .int .i64 mode] w (RetF (0, 0) w) := by
  have HR := asd hr
  have HC := asd hc
  have HL := asd hL
  have HN := asd hn
  have RV := asd (round_yes hm)
  have HF := asd hq
  have TT := asd tt
  obtain ⟨SG, hSG⟩ : ∃ s, (0 : Int) = s := ⟨_, rfl⟩
  have SGN := asd (show dyad_Sign.f 1 n m ex = some SG by rw [← hSG, sign_law tn, if_pos hz])
  have hs0 : (SG != 0) = false := by rw [← hSG]; rfl
  have c1 : decide ((l.length : Int) > 0) = false := decide_eq_false (by omega)
  have c2 : decide (0 < l.length) = false := decide_eq_false (by omega)
  clear hr hc hn hL hm hq tt tn hz hSG hl
  go_enter Tryz.func22, Tryz.ntmps22
  go_wp2_with (first
    | (go_at_call 49; refine (round_Valid.calls mode 0 _ RV.out).mono ?_; rintro e w1 ⟨rfl, d⟩; have HB := asd d.below; clear d)
    | (go_at_call 50; refine (fault_one _ A c l 0 _ (by exact blk_cell (blk_new _ _) 0) (Kd.C_below HR.out (by exact HB.out.alloc HB.out.size _)) HC.out HN.out HF.out).mono ?_; rintro e w2 ⟨rfl, d⟩; have HB2 := asd (below_post d (HB.out.alloc HB.out.size _)); clear d)
    | (go_at_call 45; refine (sums_total.calls k A c l n m ex _ (Kd.C_below HR.out HB2.out) HC.out TT.out (HL.out.step HB2.out)).mono ?_; rintro e w3 ⟨v3, rfl, r3, d⟩; obtain ⟨Au, cu, hu⟩ := Kd.R_slice r3; subst hu; have HB3 := asd (below_post d HB2.out); have R3 := asd r3; clear d r3; have N4 := asd (show NumB (w3.alloc (Obj.cells #[Value.bool n, Value.slice Au m.length cu, Value.int IntKind.i64 ex] 60 (0, 0))) w3.heap.size n (.slice Au m.length cu) ex from blk_new _ _); have HB4 := asd (HB3.out.alloc HB3.out.size (Obj.cells #[Value.bool n, Value.slice Au m.length cu, Value.int IntKind.i64 ex] 60 (0, 0))); have C4 := asd (Kd.C_below (Kd.R_reads' R3.out).2.2 ((Below.refl w3.heap.size w3).alloc (Nat.le_refl _) (Obj.cells #[Value.bool n, Value.slice Au m.length cu, Value.int IntKind.i64 ex] 60 (0, 0)))); have CAP := asd (Kd.R_reads' R3.out).2.1)
    | (go_at_call 51; refine (dyad_Sign.calls 1 n Au cu m ex SG _ C4.out CAP.out SGN.out).mono ?_; rintro e5 w5 ⟨rfl, d⟩; have HB5 := asd (below_post d HB4.out); have N5 := asd (N4.out.below d); have q0 := N5.out.c0; have q1 := N5.out.c1; have q2 := N5.out.c2; have bb5 := asd d; clear d))
  go_ret2
  exact ⟨rfl, HB5.out⟩
theorem exact_zero (hm : 1 ≤ mode ∧ mode ≤ 3) (hq : faultL l = 0) (k : Nat) (n : Bool) (m : List Int) (ex : Int) (tt : sums_total.f k l = some (n, m, ex)) (tn : IsN n m ex) (hz : m.length = 0) (hl : 0 < l.length) (hu : l.any oneB = true)
    : Calls Tryz.prog 22 #[.slice A l.length c, .int .i64 mode] w (RetF (0, 0) w) := by
  have HR := asd hr
  have HC := asd hc
  have HL := asd hL
  have HN := asd hn
  have RV := asd (round_yes hm)
  have HF := asd hq
  have TT := asd tt
  obtain ⟨SG, hSG⟩ : ∃ s, (0 : Int) = s := ⟨_, rfl⟩
  have SGN := asd (show dyad_Sign.f 1 n m ex = some SG by rw [← hSG, sign_law tn, if_pos hz])
  have hs0 : (SG != 0) = false := by rw [← hSG]; rfl
  have c1 : decide ((l.length : Int) > 0) = true := by simp; omega
  have c2 : decide (0 < l.length) = true := by simp; omega
  have HU := asd hu
  clear hr hc hn hL hm hq tt tn hz hSG hl hu
  go_enter Tryz.func22, Tryz.ntmps22
  go_wp2_with (first
    | (go_at_call 49; refine (round_Valid.calls mode 0 _ RV.out).mono ?_; rintro e w1 ⟨rfl, d⟩; have HB := asd d.below; clear d)
    | (go_at_call 50; refine (fault_one _ A c l 0 _ (by exact blk_cell (blk_new _ _) 0) (Kd.C_below HR.out (by exact HB.out.alloc HB.out.size _)) HC.out HN.out HF.out).mono ?_; rintro e w2 ⟨rfl, d⟩; have HB2 := asd (below_post d (HB.out.alloc HB.out.size _)); clear d)
    | (go_at_call 45; refine (sums_total.calls k A c l n m ex _ (Kd.C_below HR.out HB2.out) HC.out TT.out (HL.out.step HB2.out)).mono ?_; rintro e w3 ⟨v3, rfl, r3, d⟩; obtain ⟨Au, cu, hu⟩ := Kd.R_slice r3; subst hu; have HB3 := asd (below_post d HB2.out); have R3 := asd r3; clear d r3; have N4 := asd (show NumB (w3.alloc (Obj.cells #[Value.bool n, Value.slice Au m.length cu, Value.int IntKind.i64 ex] 60 (0, 0))) w3.heap.size n (.slice Au m.length cu) ex from blk_new _ _); have HB4 := asd (HB3.out.alloc HB3.out.size (Obj.cells #[Value.bool n, Value.slice Au m.length cu, Value.int IntKind.i64 ex] 60 (0, 0))); have C4 := asd (Kd.C_below (Kd.R_reads' R3.out).2.2 ((Below.refl w3.heap.size w3).alloc (Nat.le_refl _) (Obj.cells #[Value.bool n, Value.slice Au m.length cu, Value.int IntKind.i64 ex] 60 (0, 0)))); have CAP := asd (Kd.R_reads' R3.out).2.1)
    | (go_at_call 51; refine (dyad_Sign.calls 1 n Au cu m ex SG _ C4.out CAP.out SGN.out).mono ?_; rintro e5 w5 ⟨rfl, d⟩; have HB5 := asd (below_post d HB4.out); have N5 := asd (N4.out.below d); have q0 := N5.out.c0; have q1 := N5.out.c1; have q2 := N5.out.c2; have bb5 := asd d; clear d)
    | (go_at_call 52; refine (contains_one A c l _ (Kd.C_below HR.out HB5.out) HC.out HN.out).mono ?_; rw [HU.out]; rintro e6 w6 ⟨rfl, d⟩; have HB6 := asd (below_post d HB5.out); clear d))
  go_ret2
  exact ⟨rfl, HB6.out⟩
theorem exact_nought (hm : 1 ≤ mode ∧ mode ≤ 3) (hq : faultL l = 0) (k : Nat) (n : Bool) (m : List Int) (ex : Int) (tt : sums_total.f k l = some (n, m, ex)) (tn : IsN n m ex) (hz : m.length = 0) (hl : 0 < l.length) (hu : l.any oneB = false)
    : Calls Tryz.prog 22 #[.slice A l.length c, .int .i64 mode] w (RetF (9223372036854775808, 0) w) := by
  have HR := asd hr
  have HC := asd hc
  have HL := asd hL
  have HN := asd hn
  have RV := asd (round_yes hm)
  have HF := asd hq
  have TT := asd tt
  obtain ⟨SG, hSG⟩ : ∃ s, (0 : Int) = s := ⟨_, rfl⟩
  have SGN := asd (show dyad_Sign.f 1 n m ex = some SG by rw [← hSG, sign_law tn, if_pos hz])
  have hs0 : (SG != 0) = false := by rw [← hSG]; rfl
  have c1 : decide ((l.length : Int) > 0) = true := by simp; omega
  have c2 : decide (0 < l.length) = true := by simp; omega
  have HU := asd hu
  clear hr hc hn hL hm hq tt tn hz hSG hl hu
  go_enter Tryz.func22, Tryz.ntmps22
  go_wp2_with (first
    | (go_at_call 49; refine (round_Valid.calls mode 0 _ RV.out).mono ?_; rintro e w1 ⟨rfl, d⟩; have HB := asd d.below; clear d)
    | (go_at_call 50; refine (fault_one _ A c l 0 _ (by exact blk_cell (blk_new _ _) 0) (Kd.C_below HR.out (by exact HB.out.alloc HB.out.size _)) HC.out HN.out HF.out).mono ?_; rintro e w2 ⟨rfl, d⟩; have HB2 := asd (below_post d (HB.out.alloc HB.out.size _)); clear d)
    | (go_at_call 45; refine (sums_total.calls k A c l n m ex _ (Kd.C_below HR.out HB2.out) HC.out TT.out (HL.out.step HB2.out)).mono ?_; rintro e w3 ⟨v3, rfl, r3, d⟩; obtain ⟨Au, cu, hu⟩ := Kd.R_slice r3; subst hu; have HB3 := asd (below_post d HB2.out); have R3 := asd r3; clear d r3; have N4 := asd (show NumB (w3.alloc (Obj.cells #[Value.bool n, Value.slice Au m.length cu, Value.int IntKind.i64 ex] 60 (0, 0))) w3.heap.size n (.slice Au m.length cu) ex from blk_new _ _); have HB4 := asd (HB3.out.alloc HB3.out.size (Obj.cells #[Value.bool n, Value.slice Au m.length cu, Value.int IntKind.i64 ex] 60 (0, 0))); have C4 := asd (Kd.C_below (Kd.R_reads' R3.out).2.2 ((Below.refl w3.heap.size w3).alloc (Nat.le_refl _) (Obj.cells #[Value.bool n, Value.slice Au m.length cu, Value.int IntKind.i64 ex] 60 (0, 0)))); have CAP := asd (Kd.R_reads' R3.out).2.1)
    | (go_at_call 51; refine (dyad_Sign.calls 1 n Au cu m ex SG _ C4.out CAP.out SGN.out).mono ?_; rintro e5 w5 ⟨rfl, d⟩; have HB5 := asd (below_post d HB4.out); have N5 := asd (N4.out.below d); have q0 := N5.out.c0; have q1 := N5.out.c1; have q2 := N5.out.c2; have bb5 := asd d; clear d)
    | (go_at_call 52; refine (contains_one A c l _ (Kd.C_below HR.out HB5.out) HC.out HN.out).mono ?_; rw [HU.out]; rintro e6 w6 ⟨rfl, d⟩; have HB6 := asd (below_post d HB5.out); clear d)
    | (go_at_call 55; refine (math_Copysign.calls 0 13830554455654793216 9223372036854775808 _ (by decide)).mono ?_; rintro e7 w7 ⟨rfl, d⟩; have HB7 := asd (below_post d.below HB6.out); clear d))
  go_ret2
  exact ⟨rfl, HB7.out⟩
theorem exact_round (hm : 1 ≤ mode ∧ mode ≤ 3) (hq : faultL l = 0) (k : Nat) (n : Bool) (m : List Int) (ex : Int) (tt : sums_total.f k l = some (n, m, ex)) (tn : IsN n m ex) (hz : ¬ m.length = 0) (r1 : Nat) (r2 : Int) (hrv : roundN n m ex mode = (r1, r2))
    : Calls Tryz.prog 22 #[.slice A l.length c, .int .i64 mode] w (RetF (r1, r2) w) := by
  have HR := asd hr
  have HC := asd hc
  have HL := asd hL
  have HN := asd hn
  have RV := asd (round_yes hm)
  have HF := asd hq
  have TT := asd tt
  obtain ⟨SG, hSG⟩ : ∃ s, (if n = true then (-1 : Int) else 1) = s := ⟨_, rfl⟩
  have SGN := asd (show dyad_Sign.f 1 n m ex = some SG by rw [← hSG, sign_law tn, if_neg hz])
  have hs0 : (SG != 0) = true := by rw [← hSG]; split <;> rfl
  have RVV := asd (show dyad_Round.f n m ex mode = some (r1, r2) by unfold dyad_Round.f; rw [if_pos tn, hrv])
  clear hr hc hn hL hm hq tt tn hz hSG hrv
  go_enter Tryz.func22, Tryz.ntmps22
  go_wp2_with (first
    | (go_at_call 49; refine (round_Valid.calls mode 0 _ RV.out).mono ?_; rintro e w1 ⟨rfl, d⟩; have HB := asd d.below; clear d)
    | (go_at_call 50; refine (fault_one _ A c l 0 _ (by exact blk_cell (blk_new _ _) 0) (Kd.C_below HR.out (by exact HB.out.alloc HB.out.size _)) HC.out HN.out HF.out).mono ?_; rintro e w2 ⟨rfl, d⟩; have HB2 := asd (below_post d (HB.out.alloc HB.out.size _)); clear d)
    | (go_at_call 45; refine (sums_total.calls k A c l n m ex _ (Kd.C_below HR.out HB2.out) HC.out TT.out (HL.out.step HB2.out)).mono ?_; rintro e w3 ⟨v3, rfl, r3, d⟩; obtain ⟨Au, cu, hu⟩ := Kd.R_slice r3; subst hu; have HB3 := asd (below_post d HB2.out); have R3 := asd r3; clear d r3; have N4 := asd (show NumB (w3.alloc (Obj.cells #[Value.bool n, Value.slice Au m.length cu, Value.int IntKind.i64 ex] 60 (0, 0))) w3.heap.size n (.slice Au m.length cu) ex from blk_new _ _); have HB4 := asd (HB3.out.alloc HB3.out.size (Obj.cells #[Value.bool n, Value.slice Au m.length cu, Value.int IntKind.i64 ex] 60 (0, 0))); have C4 := asd (Kd.C_below (Kd.R_reads' R3.out).2.2 ((Below.refl w3.heap.size w3).alloc (Nat.le_refl _) (Obj.cells #[Value.bool n, Value.slice Au m.length cu, Value.int IntKind.i64 ex] 60 (0, 0)))); have CAP := asd (Kd.R_reads' R3.out).2.1)
    | (go_at_call 51; refine (dyad_Sign.calls 1 n Au cu m ex SG _ C4.out CAP.out SGN.out).mono ?_; rintro e5 w5 ⟨rfl, d⟩; have HB5 := asd (below_post d HB4.out); have N5 := asd (N4.out.below d); have q0 := N5.out.c0; have q1 := N5.out.c1; have q2 := N5.out.c2; have bb5 := asd d; clear d)
    | (go_at_call 47; refine (dyad_Round.calls n Au cu m ex mode r1 r2 _ (Kd.C_below C4.out bb5.out) CAP.out RVV.out).mono ?_; rintro e6 w6 ⟨rfl, d⟩; have HB6 := asd (below_post d HB5.out); clear d))
  go_ret2
  exact ⟨rfl, HB6.out⟩
theorem exact_any (T : Bool × List Int × Int) (k : Nat) (hT : faultL l = 0 → sums_total.f k l = some T ∧ IsN T.1 T.2.1 T.2.2) :
    Calls Tryz.prog 22 #[.slice A l.length c, .int .i64 mode] w (RetF (exactW l mode T) w) := by
  unfold exactW
  by_cases hm : 1 ≤ mode ∧ mode ≤ 3
  · rw [if_pos hm]
    by_cases hf : faultL l = 0
    · rw [if_pos hf]
      obtain ⟨tt, tn⟩ := hT hf
      obtain ⟨n, m, ex⟩ := T
      by_cases hz : m.length = 0
      · rw [if_pos hz]
        by_cases hl : 0 < l.length
        · rcases hu : l.any oneB with _ | _
          · rw [if_pos ⟨hl, rfl⟩]; exact exact_nought A c l mode w hr hc hn hL hm hf k n m ex tt tn hz hl hu
          · rw [if_neg (by simp)]; exact exact_zero A c l mode w hr hc hn hL hm hf k n m ex tt tn hz hl hu
        · rw [if_neg (fun h => hl h.1)]; exact exact_empty A c l mode w hr hc hn hL hm hf k n m ex tt tn hz (by omega)
      · rw [if_neg hz]
        rcases hrv : roundN n m ex mode with ⟨r1, r2⟩
        exact exact_round A c l mode w hr hc hn hL hm hf k n m ex tt tn hz r1 r2 hrv
    · rw [if_neg hf]; exact exact_fault A c l mode w hr hc hn hL hm _ rfl hf
  · rw [if_neg hm]; exact exact_mode A c l mode w hr hc hn hL hm
end
end Go.Proofs.YthmeocigliephaaGreatDoor.Big
end
section
namespace Go.Proofs.YthmeocigliephaaGreatDoor.Big
open Go.Proofs.YthmeocigliephaaGreatDoor.PNa Go.Proofs.YthmeocigliephaaGreatDoor.Plain
def canN (z e : Int) : Bool × List Int × Int :=
  if z = 0 then (false, [], 0) else (decide (z < 0), dig (z.natAbs / 2 ^ tz z.natAbs), e + tz z.natAbs)
theorem canN_zero (e : Int) : canN 0 e = (false, [], 0) := if_pos rfl
theorem canN_ne {z : Int} (h : z ≠ 0) (e : Int) : canN z e = (decide (z < 0), dig (z.natAbs / 2 ^ tz z.natAbs), e + tz z.natAbs) := if_neg h
def odd (n : Nat) : Nat := n / 2 ^ tz n
theorem odd_mul {n : Nat} (h : n ≠ 0) : odd n * 2 ^ tz n = n := by
  obtain ⟨m, hm⟩ := tz_spec h
  unfold odd
  exact Nat.div_mul_cancel ⟨2 * m + 1, hm⟩
theorem odd_ne {n : Nat} (h : n ≠ 0) : odd n ≠ 0 := by
  intro h0; have := odd_mul h; rw [h0] at this; omega
theorem odd_odd {n : Nat} (h : n ≠ 0) : odd n % 2 = 1 := by
  obtain ⟨m, hm⟩ := tz_spec h
  have h2 := odd_mul h
  have hp : 0 < 2 ^ tz n := Nat.pow_pos (by omega)
  have e1 : odd n * 2 ^ tz n = (2 * m + 1) * 2 ^ tz n := by rw [h2, Nat.mul_comm (2 * m + 1)]; exact hm
  have := Nat.mul_right_cancel hp e1
  omega
theorem tz_shift {n : Nat} (h : n ≠ 0) (j : Nat) : tz (n * 2 ^ j) = tz n + j := by
  obtain ⟨m, hm⟩ := tz_spec h
  have : n * 2 ^ j = 2 ^ (tz n + j) * (2 * m + 1) := by
    rw [Nat.pow_add]
    calc n * 2 ^ j = (2 ^ tz n * (2 * m + 1)) * 2 ^ j := by rw [← hm]
      _ = _ := by rw [Nat.mul_assoc, Nat.mul_comm (2 * m + 1), ← Nat.mul_assoc]
  rw [this, tz_unique]
theorem odd_shift {n : Nat} (h : n ≠ 0) (j : Nat) : odd (n * 2 ^ j) = odd n := by
  have hp : 0 < 2 ^ tz (n * 2 ^ j) := Nat.pow_pos (by omega)
  have hn : n * 2 ^ j ≠ 0 := Nat.mul_ne_zero h (by have := Nat.pow_pos (n := j) (show 0 < 2 by omega); omega)
  apply Nat.mul_right_cancel hp
  rw [odd_mul hn, tz_shift h, Nat.pow_add, ← Nat.mul_assoc, odd_mul h]
theorem natAbs_shift (z : Int) (j : Nat) : (z * 2 ^ j).natAbs = z.natAbs * 2 ^ j := by rw [Int.natAbs_mul, Int.natAbs_pow]; rfl
theorem shift_ne {z : Int} (h : z ≠ 0) (j : Nat) : z * 2 ^ j ≠ 0 := Int.mul_ne_zero h (by have := Int.pow_pos (n := 2) (m := j) (by omega); omega)
theorem shift_lt (z : Int) (j : Nat) : decide (z * 2 ^ j < 0) = decide (z < 0) := by
  have hp : (0 : Int) < 2 ^ j := Int.pow_pos (by omega)
  by_cases h : z < 0
  · rw [decide_eq_true h, decide_eq_true (Int.mul_neg_of_neg_of_pos h hp)]
  · rw [decide_eq_false h, decide_eq_false (by have := Int.mul_nonneg (show 0 ≤ z by omega) (Int.le_of_lt hp); omega)]
theorem canN_shift (z e : Int) (j : Nat) : canN (z * 2 ^ j) e = canN z (e + j) := by
  by_cases h : z = 0
  · subst h; rw [Int.zero_mul, canN_zero, canN_zero]
  · have hn : z.natAbs ≠ 0 := by omega
    rw [canN_ne (shift_ne h j), canN_ne h, shift_lt, natAbs_shift]
    have h1 := odd_shift hn j
    unfold odd at h1
    rw [h1, tz_shift hn]
    congr 2; omega
theorem mkN_can {z e : Int} (h1 : bl z.natAbs ≤ 65536) (h2 : -65536 ≤ e) (h3 : e + (bl z.natAbs : Int) ≤ 65536) :
    mkN z e = ((canN z e).1, (canN z e).2.1, (canN z e).2.2, 0) := by
  unfold mkN
  by_cases h : z = 0
  · subst h; rfl
  · have hn : z.natAbs ≠ 0 := by omega
    have h4 := bl_mul_pow (odd_ne hn) (tz z.natAbs)
    rw [odd_mul hn] at h4
    unfold odd at h4
    rw [if_neg h, if_pos ⟨by omega, by omega, by omega⟩, canN_ne h]
theorem rd_last (l : List Int) (h : l ≠ []) : rd l ((l.length : Int) - 1) = l.getD (l.length - 1) 0 := by
  have := List.length_pos_iff.2 h
  rw [show ((l.length : Int) - 1) = ((l.length - 1 : Nat) : Int) by omega, rd_nat]
theorem bits_and1_u32 (d : Nat) (h : d < 4294967296) : bits .and .u32 (d : Int) 1 = ((d % 2 : Nat) : Int) := by
  have h1 : (BitVec.ofInt 32 (d : Int)).toNat = d := by
    rw [BitVec.ofInt_natCast, BitVec.toNat_ofNat]; exact Nat.mod_eq_of_lt (by omega)
  show IntKind.u32.wrap ((BitVec.ofInt 32 (d : Int) &&& BitVec.ofInt 32 (1 : Int)).toNat : Int) = _
  rw [BitVec.toNat_and, h1, show (BitVec.ofInt 32 1).toNat = 1 from rfl, Nat.and_one_is_mod, IntKind.wrap_u32]
  omega
theorem valid_dig {n : Nat} (h0 : n % 2 = 1) (hb : bl n ≤ 65536) (neg : Bool) {e : Int} (h2 : -65536 ≤ e) (h3 : e ≤ 65536) : IsN neg (dig n) e := by
  refine ⟨?_, dg_dig n⟩
  have hn : n ≠ 0 := by omega
  have hne := dig_ne hn
  have hl : (dig n).length ≤ 2048 := dig_length_le (Nat.lt_of_lt_of_le (bl_le.1 hb) (by exact Nat.pow_le_pow_right (by omega) (by omega)))
  have hl0 := List.length_pos_iff.2 hne
  have hlast : (dig n).getD ((dig n).length - 1) 0 ≠ 0 := by
    rcases (nrm_iff (dg_dig n)).1 (nrm_dig n) with h | h
    · exact absurd h hne
    · exact h
  have hlow : rd (dig n) 0 = ((n % 4294967296 : Nat) : Int) := by
    rw [show (0 : Int) = ((0 : Nat) : Int) from rfl, rd_nat, dig_pos hn]; rfl
  unfold dyad_Valid.f
  rw [if_neg (by omega), if_pos (by omega), w64_of (by omega) (by omega), if_pos (by omega), if_pos (by omega), rd_last _ hne, if_neg hlast, if_pos (by omega), hlow, bits_and1_u32 _ (by omega), if_pos (by omega), if_pos (by omega)]
  congr 1
  exact decide_eq_true h3
theorem isN_can {z e : Int} (h1 : bl z.natAbs ≤ 65536) (h2 : -65536 ≤ e) (h3 : e + (bl z.natAbs : Int) ≤ 65536) : IsN (canN z e).1 (canN z e).2.1 (canN z e).2.2 := by
  by_cases h : z = 0
  · subst h; rw [canN_zero]; exact ⟨rfl, Dg.nil⟩
  · have hn : z.natAbs ≠ 0 := by omega
    have h4 := bl_mul_pow (odd_ne hn) (tz z.natAbs)
    rw [odd_mul hn] at h4
    have h5 := odd_odd hn
    rw [canN_ne h]
    exact valid_dig h5 (by show bl (odd z.natAbs) ≤ 65536; omega) _ (by show -65536 ≤ e + (tz z.natAbs : Int); omega) (by show e + (tz z.natAbs : Int) ≤ 65536; omega)
theorem zv_can {z : Int} (h : z ≠ 0) (e : Int) : zv (canN z e).1 (canN z e).2.1 * 2 ^ tz z.natAbs = z ∧ val (canN z e).2.1 = odd z.natAbs ∧ (canN z e).2.2 = e + tz z.natAbs := by
  have hn : z.natAbs ≠ 0 := by omega
  rw [canN_ne h]
  refine ⟨?_, by show val (dig _) = _; rw [val_dig]; rfl, rfl⟩
  show zv (decide (z < 0)) (dig (odd z.natAbs)) * 2 ^ tz z.natAbs = z
  have h1 := odd_mul hn
  have e1 : ((odd z.natAbs : Nat) : Int) * 2 ^ tz z.natAbs = (z.natAbs : Int) := by
    have h := congrArg (fun n : Nat => (n : Int)) h1
    simp only [Int.natCast_mul, Int.natCast_pow] at h
    exact h
  unfold zv
  rw [val_dig]
  by_cases hz : z < 0
  · rw [decide_eq_true hz, if_pos rfl, Int.neg_mul, e1]; omega
  · rw [decide_eq_false hz, if_neg (by simp), e1]; omega
theorem mkN_shift (z e : Int) (j : Nat) : mkN (z * 2 ^ j) e = mkN z (e + j) := by
  by_cases h : z = 0
  · subst h; rw [Int.zero_mul]; rfl
  · have hn : z.natAbs ≠ 0 := by omega
    have h1 := odd_shift hn j
    unfold odd at h1
    unfold mkN
    rw [if_neg h, if_neg (shift_ne h j), natAbs_shift, h1, tz_shift hn, shift_lt]
    have hc : (bl (z.natAbs / 2 ^ tz z.natAbs) ≤ 65536 ∧ e ≤ 65536 - ((tz z.natAbs + j : Nat) : Int) ∧ -65536 - ((tz z.natAbs + j : Nat) : Int) ≤ e) ↔ (bl (z.natAbs / 2 ^ tz z.natAbs) ≤ 65536 ∧ e + (j : Int) ≤ 65536 - ((tz z.natAbs : Nat) : Int) ∧ -65536 - ((tz z.natAbs : Nat) : Int) ≤ e + (j : Int)) := by
      constructor
      · rintro ⟨a, b, c⟩; exact ⟨a, by omega, by omega⟩
      · rintro ⟨a, b, c⟩; exact ⟨a, by omega, by omega⟩
    simp only [hc]
    congr 1
    congr 2
    congr 1
    omega
theorem bl_can {z : Int} (h : z ≠ 0) (e : Int) : (bl (val (canN z e).2.1) : Int) + (canN z e).2.2 = bl z.natAbs + e := by
  have hn : z.natAbs ≠ 0 := by omega
  obtain ⟨_, h2, h3⟩ := zv_can h e
  have h4 := bl_mul_pow (odd_ne hn) (tz z.natAbs)
  rw [odd_mul hn] at h4
  rw [h2, h3, h4]; omega
theorem val_can_zero {z : Int} (e : Int) : val (canN z e).2.1 = 0 ↔ z = 0 := by
  constructor
  · intro h
    by_cases hz : z = 0
    · exact hz
    · have hn : z.natAbs ≠ 0 := by omega
      have := (zv_can hz e).2.1
      exact absurd (this.symm.trans h) (odd_ne hn)
  · rintro rfl; rw [canN_zero]; rfl
theorem can_nil {z : Int} (e : Int) : (canN z e).2.1 = [] ↔ z = 0 := by
  constructor
  · intro h; exact (val_can_zero e).1 (by rw [h]; rfl)
  · rintro rfl; rw [canN_zero]
theorem addV_can {x y e : Int} (hx : bl x.natAbs ≤ 60000) (hy : bl y.natAbs ≤ 60000) (he : -65000 ≤ e) (he1 : e ≤ 4000) :
    addV (canN x e).1 (canN x e).2.1 (canN x e).2.2 (canN y e).1 (canN y e).2.1 (canN y e).2.2 = mkN (x + y) e := by
  have hfar : farV (canN x e).2.1 (canN x e).2.2 (canN y e).2.1 (canN y e).2.2 = false := by
    unfold farV
    by_cases hx0 : x = 0
    · subst hx0; rw [canN_zero]; rfl
    · by_cases hy0 : y = 0
      · subst hy0; rw [canN_zero]; simp
      · have b1 := bl_can hx0 e
        have b2 := bl_can hy0 e
        have c1 := (zv_can hx0 e).2.2
        have c2 := (zv_can hy0 e).2.2
        rw [b1, b2]
        have : ¬ (mx ((bl x.natAbs : Int) + e) ((bl y.natAbs : Int) + e) - mn (canN x e).2.2 (canN y e).2.2 > 65538) := by
          rw [c1, c2]; unfold mx mn; split <;> split <;> omega
        rw [decide_eq_false this, Bool.and_false]
  unfold addV
  rw [hfar, if_neg (by simp)]
  unfold lvl
  by_cases hx0 : x = 0
  · rw [if_pos ((val_can_zero e).2 hx0)]
    by_cases hy0 : y = 0
    · rw [if_pos ((val_can_zero e).2 hy0)]; subst hx0; subst hy0; rfl
    · rw [if_neg (fun h => hy0 ((val_can_zero e).1 h))]
      obtain ⟨h1, h2, h3⟩ := zv_can hy0 e
      simp only
      rw [h3, ← mkN_shift, Int.zero_add, h1, hx0, Int.zero_add]
  · rw [if_neg (fun h => hx0 ((val_can_zero e).1 h))]
    obtain ⟨h1, h2, h3⟩ := zv_can hx0 e
    by_cases hy0 : y = 0
    · rw [if_pos ((val_can_zero e).2 hy0)]
      simp only
      rw [h3, ← mkN_shift, Int.add_zero, h1, hy0, Int.add_zero]
    · rw [if_neg (fun h => hy0 ((val_can_zero e).1 h))]
      obtain ⟨k1, k2, k3⟩ := zv_can hy0 e
      simp only
      have hm : ∃ j : Nat, mn (canN x e).2.2 (canN y e).2.2 = e + j ∧ ((canN x e).2.2 - mn (canN x e).2.2 (canN y e).2.2).toNat + j = tz x.natAbs ∧ ((canN y e).2.2 - mn (canN x e).2.2 (canN y e).2.2).toNat + j = tz y.natAbs := by
        rw [h3, k3]
        unfold mn
        split
        · exact ⟨tz y.natAbs, by omega, by omega, by omega⟩
        · exact ⟨tz x.natAbs, by omega, by omega, by omega⟩
      obtain ⟨j, j1, j2, j3⟩ := hm
      have hs : (zv (canN x e).1 (canN x e).2.1 * 2 ^ ((canN x e).2.2 - mn (canN x e).2.2 (canN y e).2.2).toNat + zv (canN y e).1 (canN y e).2.1 * 2 ^ ((canN y e).2.2 - mn (canN x e).2.2 (canN y e).2.2).toNat) * 2 ^ j = x + y := by
        rw [Int.add_mul, Int.mul_assoc, Int.mul_assoc, ← Int.pow_add, ← Int.pow_add, j2, j3, h1, k1]
      rw [j1] at hs ⊢
      rw [← mkN_shift, hs]
end Go.Proofs.YthmeocigliephaaGreatDoor.Big
end
section
namespace Go.Proofs.YthmeocigliephaaGreatDoor.Big
open Go.Proofs.YthmeocigliephaaGreatDoor.PSu Go.Proofs.YthmeocigliephaaGreatDoor.Plain Ieee
def flz (b : Nat) : Int := floV b * 2 ^ (expoV b + 1074).toNat
def sumZ : List Nat → Int
  | [] => 0
  | b :: l => flz b + sumZ l
theorem sumZ_append (l r : List Nat) : sumZ (l ++ r) = sumZ l + sumZ r := by
  induction l with
  | nil => simp [sumZ]
  | cons b l ih => rw [List.cons_append, sumZ, sumZ, ih]; omega
theorem expoV_range {b : Nat} (h : Fin64 b) : -1074 ≤ expoV b ∧ expoV b ≤ 971 := by
  have := expo_le h
  unfold expoV; split <;> omega
theorem can_flo {b : Nat} (h : Fin64 b) : canN (floV b) (expoV b) = canN (flz b) (-1074) := by
  have := expoV_range h
  unfold flz
  rw [canN_shift]; congr 1; omega
theorem flo_bl {b : Nat} : bl (floV b).natAbs ≤ 53 := by rw [floV_natAbs]; exact bl_le.2 (manti_lt b)
theorem flz_lt {b : Nat} (h : Fin64 b) : (flz b).natAbs < 2 ^ 2098 := by
  have := expoV_range h
  unfold flz
  rw [natAbs_shift, floV_natAbs]
  have h1 : manti b < 2 ^ 53 := manti_lt b
  have h2 : 2 ^ (expoV b + 1074).toNat ≤ 2 ^ 2045 := Nat.pow_le_pow_right (by omega) (by omega)
  calc manti b * 2 ^ (expoV b + 1074).toNat ≤ manti b * 2 ^ 2045 := Nat.mul_le_mul_left _ h2
    _ < 2 ^ 53 * 2 ^ 2045 := Nat.mul_lt_mul_of_pos_right h1 (Nat.pow_pos (by omega))
    _ = 2 ^ 2098 := by rw [← Nat.pow_add]
theorem sumZ_lt (l : List Nat) (h : ∀ b ∈ l, Fin64 b) : (sumZ l).natAbs ≤ l.length * 2 ^ 2098 := by
  induction l with
  | nil => simp [sumZ]
  | cons b l ih =>
    have h1 := flz_lt (h b List.mem_cons_self)
    have h2 := ih (fun b hb => h b (List.mem_cons_of_mem _ hb))
    have h3 := Int.natAbs_add_le (flz b) (sumZ l)
    rw [sumZ, List.length_cons, Nat.add_mul, Nat.one_mul]
    omega
theorem sumZ_bl (l : List Nat) (h : ∀ b ∈ l, Fin64 b) (hl : l.length ≤ 65536) : bl (sumZ l).natAbs ≤ 2115 := by
  refine bl_le.2 (Nat.lt_of_le_of_lt (sumZ_lt l h) ?_)
  calc l.length * 2 ^ 2098 ≤ 2 ^ 16 * 2 ^ 2098 := Nat.mul_le_mul_right _ (by omega)
    _ = 2 ^ 2114 := by rw [← Nat.pow_add]
    _ < 2 ^ 2115 := Nat.pow_lt_pow_right (by omega) (by omega)
theorem of_law {b : Nat} (h : Fin64 b) : dyad_Of.f b = some ((canN (flz b) (-1074)).1, (canN (flz b) (-1074)).2.1, (canN (flz b) (-1074)).2.2, 0) := by
  have := expoV_range h
  have hb := @flo_bl b
  unfold dyad_Of.f
  rw [if_pos h, mkN_can (by omega) (by omega) (by omega), can_flo h]
theorem num_law {b : Nat} (h : Fin64 b) : sums_num.f b = some (canN (flz b) (-1074)) := by
  unfold sums_num.f
  rw [of_law h]; rfl
theorem dadd_law {x y : Int} (hx : bl x.natAbs ≤ 50000) (hy : bl y.natAbs ≤ 50000) : dyad_Add.f (canN x (-1074)).1 (canN x (-1074)).2.1 (canN x (-1074)).2.2 (canN y (-1074)).1 (canN y (-1074)).2.1 (canN y (-1074)).2.2 = some ((canN (x + y) (-1074)).1, (canN (x + y) (-1074)).2.1, (canN (x + y) (-1074)).2.2, 0) := by
  have hs : bl (x + y).natAbs ≤ 50001 := by
    have := bl_add hx hy
    refine bl_le.2 (Nat.lt_of_le_of_lt (Int.natAbs_add_le x y) (bl_le.1 this))
  unfold dyad_Add.f
  rw [if_pos ⟨isN_can (by omega) (by omega) (by omega), isN_can (by omega) (by omega) (by omega)⟩, addV_can (by omega) (by omega) (by omega) (by omega), mkN_can (by omega) (by omega) (by omega)]
theorem rdOf_get (l : List Nat) (i : Nat) (h : i < l.length) : rdOf (0 : Nat) l (i : Int) = l[i] := by
  unfold rdOf
  rw [Int.toNat_natCast, List.getD_eq_getElem?_getD, List.getElem?_eq_getElem h]; rfl
theorem total_ev (l : List Nat) (hf : ∀ b ∈ l, Fin64 b) (hl : l.length ≤ 65536) : ∀ d i : Nat, i + d = l.length →
    sums_total.l0 (d + 1) l (l.length : Int) (i : Int) (canN (sumZ (l.take i)) (-1074)).1 (canN (sumZ (l.take i)) (-1074)).2.1 (canN (sumZ (l.take i)) (-1074)).2.2 = some (canN (sumZ l) (-1074)) := by
  intro d
  induction d with
  | zero =>
    intro i hi
    have : i = l.length := by omega
    subst this
    rw [sums_total.l0, if_neg (by omega), List.take_length]
  | succ d ih =>
    intro i hi
    have hil : i < l.length := by omega
    have hb := hf l[i] (List.getElem_mem hil)
    have ht : ∀ b ∈ l.take i, Fin64 b := fun b hb => hf b (List.mem_of_mem_take hb)
    have e1 : sumZ (l.take i) + flz l[i] = sumZ (l.take (i + 1)) := by
      rw [List.take_succ_eq_append_getElem hil, sumZ_append]; simp [sumZ]
    have b1 := sumZ_bl (l.take i) ht (by rw [List.length_take]; omega)
    have b2 : bl (flz l[i]).natAbs ≤ 2098 := bl_le.2 (flz_lt hb)
    rw [sums_total.l0, if_pos (by omega), if_pos (by omega), if_pos (by omega), rdOf_get l i hil, num_law hb, Option.bind_some, dadd_law (by omega) (by omega), Option.bind_some, e1, w64_succ (by omega)]
    exact ih (i + 1) (by omega)
theorem total_law (l : List Nat) (hf : ∀ b ∈ l, Fin64 b) (hl : l.length ≤ 65536) : sums_total.f (l.length + 1) l = some (canN (sumZ l) (-1074)) := by
  have h := total_ev l hf hl l.length 0 (by omega)
  unfold sums_total.f
  simpa [sumZ, canN_zero] using h
theorem fin_of {b : Nat} (h : b < 18446744073709551616) (h1 : nanB b = false) (h2 : infB? b = false) : Fin64 b := by
  refine ⟨h, ?_⟩
  rcases Nat.lt_trichotomy (b % 9223372036854775808) 9218868437227405312 with h3 | h3 | h3
  · exact h3
  · exfalso
    unfold infB? math_IsInf.f math_Abs.f at h2
    rw [if_pos rfl, Option.bind_some, bits_abs b h] at h2
    simp only [Int.toNat_natCast, Option.getD_some] at h2
    have : FloatKind.f64.format.order (b % 9223372036854775808) 9218868437227405311 = some .gt := by
      rw [h3]; decide
    rw [this] at h2
    cases h2
  · exfalso
    have : FloatKind.f64.format.order b b = none := by
      show double.order b b = none
      have hr : ∃ s f, double.read b = .nan s f := by
        unfold Format.read
        simp only [sw, bn, ir, lp]
        rw [if_neg (by omega), if_neg (by omega)]
        rw [if_neg (by omega)]
        exact ⟨_, _, rfl⟩
      obtain ⟨s, f, hr⟩ := hr
      unfold Format.order
      rw [hr]
      rfl
    unfold nanB at h1
    rw [this] at h1
    cases h1
theorem fault_zero {l : List Nat} (hw : ∀ b ∈ l, b < 18446744073709551616) (h : faultL l = 0) : l.length ≤ 65536 ∧ ∀ b ∈ l, Fin64 b := by
  unfold faultL at h
  split at h
  · cases h
  · split at h
    · cases h
    · split at h
      · cases h
      · rename_i h1 h2 h3
        refine ⟨by omega, fun b hb => fin_of (hw b hb) ?_ ?_⟩
        · cases hn : nanB b
          · rfl
          · exact absurd (List.any_eq_true.2 ⟨b, hb, hn⟩) h2
        · cases hn : infB? b
          · rfl
          · exact absurd (List.any_eq_true.2 ⟨b, hb, hn⟩) h3
theorem exact_list (A : Option Addr) (c : Nat) (l : List Nat) (mode : Int) (w : World) (hr : Kd.C Kd.float w A l.length l) (hc : l.length ≤ c) (hn : l.length < 4611686018427387904) (hw : ∀ b ∈ l, b < 18446744073709551616) (hL : Laid w) :
    Calls Tryz.prog 22 #[.slice A l.length c, .int .i64 mode] w (RetF (exactW l mode (canN (sumZ l) (-1074))) w) :=
  exact_any A c l mode w hr hc hn hL _ (l.length + 1) (fun h => by
    obtain ⟨h1, h2⟩ := fault_zero hw h
    have := sumZ_bl l h2 h1
    exact ⟨total_law l h2 h1, isN_can (by omega) (by omega) (by omega)⟩)
end Go.Proofs.YthmeocigliephaaGreatDoor.Big
end
