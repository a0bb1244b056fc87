/- The contract of lex.blanks: how many bytes of blanks and remarks stand at a text's beginning. -/
import Derived.Test.YtdcjgibdfpldgaaProg
import Derived.Test.YtdcjgibdfpldgaaShelf
import Derived.Test.YtdcjgibdfpldgaaDig
import Derived.WalkKit
import Derived.KernelRfl
import Derived.Below
import Derived.Lib.Hide
import Derived.Outline
import Derived.Lib.Strings
namespace Go.Proofs.Ytdcjgibdfpldgaa
set_option linter.unusedVariables false
set_option linter.unusedSimpArgs false
open Go.RowKit

/-- Blanks and remarks at the head of a text; the flag: a remark is open. -/
def blk : Bool → List UInt8 → Nat
  | _, [] => 0
  | false, c :: l => if c = 9 ∨ c = 10 ∨ c = 13 ∨ c = 32 then blk false l + 1 else if c = 35 then blk true l + 1 else 0
  | true, c :: l => if c = 10 then blk false l + 1 else blk true l + 1

theorem blk_le (b : Bool) (l : List UInt8) : blk b l ≤ l.length := by
  induction l generalizing b with
  | nil => cases b <;> simp [blk]
  | cons c l ih => cases b <;> simp only [blk, List.length_cons] <;> repeat' split
                   all_goals (have := ih true; have := ih false; omega)

theorem blk_true (l : List UInt8) : (Lib.indexByte l 10 = -1 ∧ blk true l = l.length) ∨ (∃ n : Nat, n < l.length ∧ Lib.indexByte l 10 = n ∧ blk true l = n + 1 + blk false (l.drop (n + 1))) := by
  induction l with
  | nil => left; simp [blk, Lib.indexByte]
  | cons c l ih =>
    by_cases h : c = 10
    · right; refine ⟨0, by simp, by simp [Lib.indexByte, h], by simp [blk, h]; omega⟩
    · rcases ih with ⟨h1, h2⟩ | ⟨n, hn, h1, h2⟩
      · left; simp [blk, Lib.indexByte, h, h1, h2]
      · right; refine ⟨n + 1, by simpa using hn, ?_, ?_⟩
        · simp [Lib.indexByte, h, h1]
        · simp only [blk, if_neg h, h2, List.drop_succ_cons]; omega

theorem blk_step (s : ByteArray) (k : Nat) (h : k < s.size) (hb : s[k].toNat = 9 ∨ s[k].toNat = 10 ∨ s[k].toNat = 13 ∨ s[k].toNat = 32)
    (HR : blk false s.data.toList = k + blk false (s.data.toList.drop k)) : blk false s.data.toList = (k + 1 : Nat) + blk false (s.data.toList.drop (k + 1)) := by
  have e : s.data.toList.drop k = s[k] :: s.data.toList.drop (k + 1) := by
    rw [List.drop_eq_getElem_cons (by simpa using h)]; rfl
  rw [e] at HR
  have hb' : s[k] = 9 ∨ s[k] = 10 ∨ s[k] = 13 ∨ s[k] = 32 := by
    rcases hb with h | h | h | h
    · left; exact UInt8.toNat_inj.mp h
    · right; left; exact UInt8.toNat_inj.mp h
    · right; right; left; exact UInt8.toNat_inj.mp h
    · right; right; right; exact UInt8.toNat_inj.mp h
  rw [blk, if_pos hb'] at HR; omega

theorem blk_rem (s : ByteArray) (k : Nat) (h : k < s.size) (hb : s[k].toNat = 35)
    (HR : blk false s.data.toList = k + blk false (s.data.toList.drop k)) : (Lib.indexByte (s.extract k s.size).data.toList 10 = -1 ∧ blk false s.data.toList = s.size) ∨ (∃ n : Nat, k + n < s.size ∧ Lib.indexByte (s.extract k s.size).data.toList 10 = n ∧ blk false s.data.toList = (k + n + 1 : Nat) + blk false (s.data.toList.drop (k + n + 1))) := by
  have e : s.data.toList.drop k = s[k] :: s.data.toList.drop (k + 1) := by
    rw [List.drop_eq_getElem_cons (by simpa using h)]; rfl
  have e2 : (s.extract k s.size).data.toList = s.data.toList.drop k := by
    rw [Lib.extract_data, List.take_of_length_le (by simp)]
  have hb' : s[k] = 35 := UInt8.toNat_inj.mp hb
  rw [e2, e, hb']
  rw [e, hb'] at HR
  have h1 : blk false (35 :: List.drop (k + 1) s.data.toList) = blk true (List.drop (k + 1) s.data.toList) + 1 := by
    rw [blk, if_neg (by decide), if_pos rfl]
  rw [h1] at HR
  have hl : (s.data.toList.drop (k + 1)).length = s.size - (k + 1) := by simp
  rcases blk_true (s.data.toList.drop (k + 1)) with ⟨a, b⟩ | ⟨n, hn, a, b⟩
  · left; rw [b, hl] at HR
    refine ⟨?_, by omega⟩
    rw [Lib.indexByte, if_neg (by decide), a]; rfl
  · right; refine ⟨n + 1, by omega, ?_, ?_⟩
    · rw [Lib.indexByte, if_neg (by decide), a, if_neg (by simp)]; simp
    · rw [b, List.drop_drop] at HR; 
      rw [show k + (n + 1) + 1 = k + 1 + (n + 1) by omega]; omega

theorem blk_end (s : ByteArray) (k : Nat) (h : k < s.size) (hb : ¬ s[k].toNat = 9 ∧ ¬ s[k].toNat = 10 ∧ ¬ s[k].toNat = 13 ∧ ¬ s[k].toNat = 32 ∧ ¬ s[k].toNat = 35)
    (HR : blk false s.data.toList = k + blk false (s.data.toList.drop k)) : blk false s.data.toList = k := by
  have e : s.data.toList.drop k = s[k] :: s.data.toList.drop (k + 1) := by
    rw [List.drop_eq_getElem_cons (by simpa using h)]; rfl
  obtain ⟨h1, h2, h3, h4, h5⟩ := hb
  rw [e, blk, if_neg, if_neg] at HR
  · exact HR
  · intro h; exact h5 (by rw [h]; rfl)
  · rintro (h | h | h | h)
    · exact h1 (by rw [h]; rfl)
    · exact h2 (by rw [h]; rfl)
    · exact h3 (by rw [h]; rfl)
    · exact h4 (by rw [h]; rfl)

theorem idx10 (s : ByteArray) (n : Int) (h : Lib.indexByte s.data.toList 10 = n) (w : World) :
    Calls Try.prog 41 #[.string s, .int .u8 10] w fun e w' => e = .returned (.int .i64 n) ∧ w' = w := by
  subst h; exact Try.strings_IndexByte s 10 w

set_option maxHeartbeats 1000000 in
theorem blanks_calls (s : ByteArray) (w : World) (hs0 : s.size ≤ 140737488351232) :
    Calls Try.prog 24 #[.string s] w fun e w' => e = .returned (.int .i64 (blk false s.data.toList)) ∧ w' = w := by
  go_enter Try.func24, Try.ntmps24
  go_wp2
  go_step3
  go_wp2
  go_step3
  go_wp2
  go_loop [3] (fun i => ∃ k : Nat, i = .int .i64 k ∧ k ≤ s.size ∧ Hid (blk false s.data.toList = k + blk false (s.data.toList.drop k))) (fun i => s.size - (intOf i).toNat)
  case atStart => exact ⟨0, rfl, by omega, Lib.hid (by simp)⟩
  case round =>
    obtain ⟨k, rfl, hk, HR⟩ := hrel
    by_cases hlt : k < s.size
    · by_cases h9 : s[k].toNat = 9
      · have e1 : ((s[k].toNat : Int) == 9) = true := by simp [h9]
        have HN := Lib.hid (blk_step s k hlt (by omega) HR.out)
        clear h9
        go_wp2
        go_round
        case rel => exact ⟨k + 1, by go_num, by omega, HN⟩
        case measure => simp [intOf]; omega
      · have e1 : ((s[k].toNat : Int) == 9) = false := by simp; omega
        by_cases h10 : s[k].toNat = 10
        · have e2 : ((s[k].toNat : Int) == 10) = true := by simp [h10]
          have HN := Lib.hid (blk_step s k hlt (by omega) HR.out)
          clear h10 h9
          go_wp2
          go_round
          case rel => exact ⟨k + 1, by go_num, by omega, HN⟩
          case measure => simp [intOf]; omega
        · have e2 : ((s[k].toNat : Int) == 10) = false := by simp; omega
          by_cases h13 : s[k].toNat = 13
          · have e3 : ((s[k].toNat : Int) == 13) = true := by simp [h13]
            have HN := Lib.hid (blk_step s k hlt (by omega) HR.out)
            clear h13 h10 h9
            go_wp2
            go_round
            case rel => exact ⟨k + 1, by go_num, by omega, HN⟩
            case measure => simp [intOf]; omega
          · have e3 : ((s[k].toNat : Int) == 13) = false := by simp; omega
            by_cases h32 : s[k].toNat = 32
            · have e4 : ((s[k].toNat : Int) == 32) = true := by simp [h32]
              have HN := Lib.hid (blk_step s k hlt (by omega) HR.out)
              clear h32 h13 h10 h9
              go_wp2
              go_round
              case rel => exact ⟨k + 1, by go_num, by omega, HN⟩
              case measure => simp [intOf]; omega
            · have e4 : ((s[k].toNat : Int) == 32) = false := by simp; omega
              by_cases h35 : s[k].toNat = 35
              · have e5 : ((s[k].toNat : Int) == 35) = true := by simp [h35]
                have HN := Lib.hid (blk_rem s k hlt h35 HR.out)
                clear h35 h32 h13 h10 h9
                have hcut : k ≤ s.size := by omega
                rcases HN.out with ⟨n1, n2⟩ | ⟨n, n0, n1, n2⟩
                · have HC := Lib.hid n1
                  have HE := Lib.hid n2
                  clear n1 n2 HN
                  go_wp2_with (go_at_call 41; refine (idx10 _ _ HC.out _).mono ?_; rintro e w' ⟨rfl, rfl⟩)
                  rw [Exit.noGoto_ret]
                  go_ret
                  exact ⟨ret_int (by rw [HE.out]), rfl⟩
                · have HC := Lib.hid n1
                  have HE := Lib.hid n2
                  clear n1 n2 HN
                  have hn0 : ¬ ((n : Int) < 0) := by omega
                  go_wp2_with (go_at_call 41; refine (idx10 _ _ HC.out _).mono ?_; rintro e w' ⟨rfl, rfl⟩)
                  go_round
                  case rel => exact ⟨k + n + 1, by go_num, by omega, HE⟩
                  case measure => simp [intOf]; omega
              · have e5 : ((s[k].toNat : Int) == 35) = false := by simp; omega
                have HN := Lib.hid (blk_end s k hlt ⟨h9, h10, h13, h32, h35⟩ HR.out)
                clear h35 h32 h13 h10 h9
                go_wp2
                go_ret
                exact ⟨ret_int (by rw [HN.out]), rfl⟩
    · have HN : Hid (blk false s.data.toList = k) := Lib.hid (by
        have := HR.out; rw [List.drop_of_length_le (by simp; omega)] at this; simpa [blk] using this)
      go_wp2
      go_ret
      exact ⟨ret_int (by rw [HN.out]), rfl⟩
end Go.Proofs.Ytdcjgibdfpldgaa
