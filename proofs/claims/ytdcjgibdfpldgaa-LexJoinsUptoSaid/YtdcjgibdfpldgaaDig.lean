/- The contract of lex.digits: the number of digits at a text's beginning. -/
import Derived.Test.YtdcjgibdfpldgaaProg
import Derived.WalkKit
import Derived.KernelRfl
import Derived.Below
import Derived.Laws.RangeAny
import Derived.Laws.RangeString
import Derived.Lib.Hide
namespace Go.Proofs.Ytdcjgibdfpldgaa
set_option linter.unusedVariables false
set_option linter.unusedSimpArgs false
open Go.RowKit

/-- Is a byte a digit? -/
def isDig (c : UInt8) : Bool := 48 ≤ c.toNat && c.toNat ≤ 57
/-- How many digits a text begins with. -/
def digs (l : List UInt8) : Nat := (l.takeWhile isDig).length

theorem digs_le (l : List UInt8) : digs l ≤ l.length := by
  unfold digs; induction l with
  | nil => simp
  | cons a l ih => simp only [List.takeWhile_cons]; split <;> simp <;> omega

theorem digs_of (l : List UInt8) (k : Nat) (hk : k ≤ l.length) (h : ∀ j, (hj : j < k) → isDig (l[j]'(by omega)) = true) (he : (h2 : k < l.length) → isDig (l[k]'h2) = false) : digs l = k := by
  unfold digs
  induction l generalizing k with
  | nil => simp at hk; simp [hk]
  | cons a l ih =>
    cases k with
    | zero => have := he (by simp); simp at this; simp [this]
    | succ k =>
      have h0 := h 0 (by omega); simp at h0
      simp [h0]
      apply ih k (by simpa using hk)
      · intro j hj; have := h (j+1) (by omega); simpa using this
      · intro h2; have := he (by simpa using h2); simpa using this

theorem ret_int {k : IntKind} {a b : Int} (h : a = b) : Ending.returned (.int k a) = .returned (.int k b) := by rw [h]

theorem dec_dig (s : ByteArray) (pos : Nat) (h : pos < s.size) (h0 : isDig (s.data.toList[pos]'(by simpa using h)) = true) : 48 ≤ (Utf8.decode s pos).1 ∧ (Utf8.decode s pos).1 ≤ 57 ∧ (Utf8.decode s pos).2 = 1 := by
  have e : s.data.toList[pos]'(by simpa using h) = s[pos]'h := rfl
  rw [e] at h0; simp [isDig] at h0
  rw [decode_ascii s pos h (by omega)]; exact ⟨h0.1, h0.2, rfl⟩

theorem dec_not (s : ByteArray) (pos : Nat) (h : pos < s.size) (h0 : isDig (s.data.toList[pos]'(by simpa using h)) = false) : (Utf8.decode s pos).1 < 48 ∨ (57 < (Utf8.decode s pos).1 ∧ ¬ (Utf8.decode s pos).1 < 48) := by
  have e : s.data.toList[pos]'(by simpa using h) = s[pos]'h := rfl
  rw [e] at h0; simp [isDig] at h0
  by_cases ha : (s[pos]'h).toNat < 128
  · rw [decode_ascii s pos h ha]
    by_cases hb : (s[pos]'h).toNat < 48
    · exact .inl hb
    · exact .inr ⟨h0 (by omega), hb⟩
  · have := (decode_high s pos h (by omega)).1; right; omega

set_option maxHeartbeats 400000 in
theorem digits_calls (s : ByteArray) (w : World) :
    Calls Try.prog 47 #[.string s] w fun e w' => e = .returned (.int .i64 (digs s.data.toList)) ∧ Below w.heap.size w w' := by
  go_enter Try.func47, Try.ntmps47
  go_wp2
  go_loopw [2] (fun r w' => ∃ (pos : Nat), w' = w.iter s pos ∧ r = .int .i64 0 ∧ pos ≤ s.size ∧ (∀ j, (hj : j < pos) → (hs : j < s.data.toList.length) → isDig (s.data.toList[j]'hs) = true)) (fun _ w' => s.size - w'.iterPos w.heap.size)
  case atStart => exact ⟨0, rfl, rfl, by omega, by intro j hj; omega⟩
  case round =>
    obtain ⟨pos, rfl, rfl, hps, hall0⟩ := hrel
    have HA : Hid (∀ j, (hj : j < pos) → (hs : j < s.data.toList.length) → isDig (s.data.toList[j]'hs) = true) := Lib.hid hall0
    clear hall0
    by_cases hp : pos < s.size
    · have hnx : ∀ ty, (Instr.next (.pointer (some ⟨w.heap.size, 0, none⟩)) true ty).run Try.prog (w.iter s pos) = _ := fun ty => run_next_any w s pos ty hp
      cases hdg : isDig (s.data.toList[pos]'(by simpa using hp)) with
      | true =>
        obtain ⟨d1, d2, d3⟩ := dec_dig s pos hp hdg
        have HD := Lib.hid hdg
        clear hdg
        have H3 := Lib.hid d3
        clear d3
        go_wp2
        go_roundw
        case rel =>
          refine ⟨pos + 1, by rw [H3.out], rfl, by omega, ?_⟩
          intro j hj hs
          by_cases e : j = pos
          · subst e; exact HD.out
          · exact HA.out j (by omega) hs
        case measure => simp [H3.out]; omega
      | false =>
        have HD := Lib.hid hdg
        have hr : digs s.data.toList = pos := digs_of _ pos (by simpa using hps) (fun j hj => HA.out j hj _) (fun h2 => by simpa using hdg)
        have HR := Lib.hid hr
        have hw := dec_not s pos hp hdg
        clear hdg hr
        rcases hw with hw | ⟨hw1, hw2⟩
        · go_wp2
          go_ret
          exact ⟨ret_int (by rw [HR.out]), (Below.refl _ _).alloc (Nat.le_refl _) _⟩
        · go_wp2
          go_ret
          exact ⟨ret_int (by rw [HR.out]), (Below.refl _ _).alloc (Nat.le_refl _) _⟩
    · have hnx : ∀ ty, (Instr.next (.pointer (some ⟨w.heap.size, 0, none⟩)) true ty).run Try.prog (w.iter s pos) = _ := fun ty => run_next_end w s pos ty hp
      have hr : digs s.data.toList = s.size := digs_of _ s.size (by simp) (fun j hj => HA.out j (by omega) _) (fun h2 => by simp at h2)
      have HR := Lib.hid hr
      clear hr
      go_wp2
      go_ret
      exact ⟨ret_int (by rw [HR.out]), (Below.refl _ _).alloc (Nat.le_refl _) _⟩
end Go.Proofs.Ytdcjgibdfpldgaa
