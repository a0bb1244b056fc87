/- The contract of lex.Join: the error, or the texts one behind the other with a blank between two words. -/
import Derived.Test.YtdcjgibdfpldgaaLawC
namespace Go.Proofs.Ytdcjgibdfpldgaa.PLex
set_option linter.unusedVariables false
set_option linter.unusedSimpArgs false
open Go.RowKit Go.Proofs.YtdcjgibdfpldgaaW.PrintWords

def wordyB (t : S32) : Bool := decide (t.f0 = 1 ∨ t.f0 = 2)
/-- Is the token of number i in a list of n one, and does it end the list if and only if it says so? -/
def okAt (n i : Nat) (t : S32) : Bool := validB t.f0 t.f1.data.toList t.f2 && (decide (t.f0 = 0) == decide (i + 1 = n))
def okFrom (n : Nat) : Nat → List S32 → Bool
  | _, [] => true
  | i, t :: r => okAt n i t && okFrom n (i + 1) r
def joinL : Bool → List S32 → List UInt8
  | _, [] => []
  | p, t :: r => (if p = true ∧ wordyB t = true then [32] else []) ++ t.f1.data.toList ++ joinL (wordyB t) r
def small (l : List S32) : Bool := l.all fun t => decide (t.f1.size ≤ 1048576)
def joinR (l : List S32) : ByteArray × Int :=
  if okFrom l.length 0 l = false then (⟨#[]⟩, 240) else if l.length = 0 then (⟨#[]⟩, 240) else if l.length > 65536 then (⟨#[]⟩, 271)
  else if (joinL false l).length > 1048576 then (⟨#[]⟩, 2) else (⟨(joinL false l).toArray⟩, 0)
def lex_Join.f (l : List S32) : Option (ByteArray × Int) := if small l = true then some (joinR l) else none

theorem okFrom_at (n : Nat) : ∀ (l : List S32) (i k : Nat), k < l.length → okFrom n i l = true → okAt n (i + k) (l.getD k z32) = true
  | [], _, _, hk, _ => by simp at hk
  | t :: r, i, 0, _, h => by simp [okFrom] at h; simpa using h.1
  | t :: r, i, k + 1, hk, h => by
    simp [okFrom] at h
    have := okFrom_at n r (i + 1) k (by simpa using hk) h.2
    rw [show i + (k + 1) = i + 1 + k by omega]; simpa using this
theorem okFrom_not (n : Nat) : ∀ (l : List S32) (i k : Nat), k < l.length → okAt n (i + k) (l.getD k z32) = false → okFrom n i l = false
  | [], _, _, hk, _ => by simp at hk
  | t :: r, i, 0, _, h => by simp at h; simp [okFrom, h]
  | t :: r, i, k + 1, hk, h => by
    have := okFrom_not n r (i + 1) k (by simpa using hk) (by rw [show i + 1 + k = i + (k + 1) by omega]; simpa using h)
    simp [okFrom, this]

theorem okFrom_all (n : Nat) : ∀ (l : List S32) (i : Nat), (∀ k, k < l.length → okAt n (i + k) (l.getD k z32) = true) → okFrom n i l = true
  | [], _, _ => rfl
  | t :: r, i, h => by
    have h0 := h 0 (by simp)
    have := okFrom_all n r (i + 1) (fun k hk => by
      have := h (k + 1) (by simpa using hk)
      rw [show i + 1 + k = i + (k + 1) by omega]; simpa using this)
    simp at h0
    simp [okFrom, h0, this]
theorem okAt_rd {l0 : List S32} {x : Int} (h0 : 0 ≤ x) (h : x < l0.length) (hv : validB (rd_T32 l0 x).f0 (rd_T32 l0 x).f1.data.toList (rd_T32 l0 x).f2 = true) :
    okAt l0.length x.toNat (l0.getD x.toNat z32) = (((rd_T32 l0 x).f0 == 0) == (x == (l0.length : Int) - 1)) := by
  have e : l0.getD x.toNat z32 = rd_T32 l0 x := rfl
  unfold okAt; rw [e, hv, Bool.true_and]
  have e1 : decide ((rd_T32 l0 x).f0 = 0) = ((rd_T32 l0 x).f0 == 0) := by rw [Bool.eq_iff_iff]; simp
  have e2 : decide (x.toNat + 1 = l0.length) = (x == (l0.length : Int) - 1) := by rw [Bool.eq_iff_iff]; simp; omega
  rw [e1, e2]
theorem bcell {W w1 : World} (hb : Below W.heap.size W w1) : (∀ b o, b < W.heap.size → w1.cell? ⟨b, o, none⟩ = W.cell? ⟨b, o, none⟩) ∧ (∀ b o, b < W.heap.size → w1.frozen? ⟨b, o, none⟩ = W.frozen? ⟨b, o, none⟩) :=
  ⟨fun b o h => hb.cell (p := ⟨b, o, none⟩) h, fun b o h => hb.frozen (p := ⟨b, o, none⟩) h⟩
theorem valid_any (f0 : Int) (s : ByteArray) (f2 : Int) (hs : s.size ≤ Lim) (v : Bool) (hv : Hid (validB f0 s.data.toList f2 = v)) (w : World) :
    Calls Try.prog 18 #[.agg #[.int .i64 f0, .string s, .int .i64 f2]] w fun e w' => e = .returned (.bool v) ∧ Below w.heap.size w w' := by
  have := hv.out; subst this
  obtain ⟨k, hk⟩ := (Valid_ev f0 s f2 hs).rounds
  exact lex_Valid.calls k f0 s f2 _ w hk

theorem cell_al {w : World} {p : Addr} {v : Value} (h : w.cell? p = some v) (o : Obj) : (w.alloc o).cell? p = some v :=
  (((Below.refl w.heap.size w).alloc (Nat.le_refl _) o).cell (World.block_lt_of_cell? w _ h)).trans h
theorem builderAt_below {T e : TypeId} {B b : Nat} {p : Value} {bs : List Value} {W W' : World} (h : Lib.BuilderAtF T e B b p bs W) (hb : Below W.heap.size W W') : Lib.BuilderAtF T e B b p bs W' := by
  have hlt := h.lt
  obtain ⟨hB, v, hv, hown, hne⟩ := h
  exact ⟨hB, v, (hb.block b hlt).trans hv, hown.kept (row := none) ⟨hb.os, hb.tape, hb.output, hb.size, fun k hk _ => hb.block k hk⟩ (Classical.em _), hne⟩
theorem builder_below {T e : TypeId} {B b : Nat} {bs : List Value} {W W' : World} (h : Lib.IsBuilderF T e B b bs W) (hb : Below W.heap.size W W') : Lib.IsBuilderF T e B b bs W' :=
  h.elim (fun x => .inl (builderAt_below x hb)) (fun x => .inr (builderAt_below x hb))
theorem builder_lt {T e : TypeId} {B b : Nat} {bs : List Value} {W : World} (h : Lib.IsBuilderF T e B b bs W) : B ≤ b ∧ b < W.heap.size := by
  rcases h with h | h <;> exact ⟨h.1, h.lt⟩
theorem wordy_any (t : S32) (v : Bool) (hv : Hid (wordyB t = v)) (w : World) :
    Calls Try.prog 33 #[.agg #[.int .i64 t.f0, .string t.f1, .int .i64 t.f2]] w fun e w' => e = .returned (.bool v) ∧ Below w.heap.size w w' := by
  refine lex_wordy.calls t.f0 t.f1 t.f2 v w ?_
  rw [← hv.out]; unfold lex_wordy.f wordyB
  by_cases h : t.f0 = 1
  · rw [if_pos h]; simp [h]
  · rw [if_neg h]; congr 1; rw [Bool.eq_iff_iff]; simp [h]
def lastW (p : Bool) (l : List S32) : Bool := match l.getLast? with | none => p | some t => wordyB t
theorem joinL_snoc (p : Bool) (l : List S32) (t : S32) : joinL p (l ++ [t]) = joinL p l ++ ((if lastW p l = true ∧ wordyB t = true then [32] else []) ++ t.f1.data.toList) := by
  induction l generalizing p with
  | nil => simp only [List.nil_append, joinL, lastW, List.getLast?_nil, List.append_nil]; rfl
  | cons a l ih =>
    simp only [List.cons_append, joinL, ih, List.append_assoc]
    have : lastW (wordyB a) l = lastW p (a :: l) := by
      unfold lastW
      cases l with
      | nil => simp
      | cons b r => rw [List.getLast?_cons_cons]; rfl
    rw [this]
theorem joinL_pre (p : Bool) (a b : List S32) : (joinL p a).length ≤ (joinL p (a ++ b)).length := by
  induction a generalizing p with
  | nil => simp [joinL]
  | cons t a ih => simp only [List.cons_append, joinL, List.length_append]; have := ih (wordyB t); omega
theorem take_step (l : List S32) (x : Int) (h0 : 0 ≤ x) (h : x < l.length) : l.take (x + 1).toNat = l.take x.toNat ++ [rd_T32 l x] := by
  have hx : x.toNat < l.length := by omega
  rw [show (x + 1).toNat = x.toNat + 1 by omega, List.take_succ_eq_append_getElem hx]
  unfold rd_T32; simp [List.getD, hx]
theorem last_take (l : List S32) (x : Int) (h0 : 0 < x) (h : x ≤ l.length) : lastW false (l.take x.toNat) = wordyB (rd_T32 l (x - 1)) := by
  have hx : (x - 1).toNat < l.length := by omega
  have := take_step l (x - 1) (by omega) (by omega)
  rw [show x - 1 + 1 = x by omega] at this
  rw [this]; unfold lastW; simp

theorem heap_new (w : World) (o : Obj) : (w.alloc o).heap[w.heap.size]? = some o := by
  show (w.heap.push o)[w.heap.size]? = some o
  simp
theorem fin_long {l0 : List S32} {m : Nat} {r1 : ByteArray} {r2 : Int} (h : 1048576 < ((Lib.byteCells (joinL false (l0.take m))).length : Int))
    (HJ2 : (if (joinL false l0).length > 1048576 then ((⟨#[]⟩ : ByteArray), (2 : Int)) else (⟨(joinL false l0).toArray⟩, 0)) = (r1, r2)) : (r1, r2) = ((⟨#[]⟩ : ByteArray), (2 : Int)) := by
  have h2 := joinL_pre false (l0.take m) (l0.drop m)
  rw [List.take_append_drop] at h2
  rw [Lib.byteCells_length] at h
  rw [← HJ2, if_pos (by omega)]

set_option maxHeartbeats 4000000 in
set_option maxRecDepth 100000 in
theorem lex_Join.calls (A0 : Option Addr) (c0 : Nat) (l0 : List (S32)) (r1 : ByteArray) (r2 : Int) (w : World) (hr0 : Kd.C k32 w A0 l0.length l0) (hc0 : l0.length ≤ c0) (h : lex_Join.f l0 = some (r1, r2)) :
    Calls Try.prog 20 #[.slice A0 l0.length c0] w fun e w' => e = .returned (.tuple #[.string r1, .int .i64 r2]) ∧ Below w.heap.size w w' := by
  have hu32 := Try.underlying32
  have hmax := Kd.C_max hr0
  have HR0 := Lib.hid hr0
  clear hr0
  obtain ⟨hsm, hJ⟩ : small l0 = true ∧ joinR l0 = (r1, r2) := by
    unfold lex_Join.f at h; split at h
    · exact ⟨‹_›, Option.some.inj h⟩
    · cases h
  have HJ := Lib.hid hJ
  have HS0 : ∀ x : Int, (rd_T32 l0 x).f1.size ≤ 1048576 := by
    intro x; unfold rd_T32
    rcases Nat.lt_or_ge x.toNat l0.length with hx | hx
    · rw [show l0.getD x.toNat z32 = l0[x.toNat] by simp [List.getD, hx]]
      have := List.all_eq_true.mp hsm _ (List.getElem_mem hx); simpa using this
    · rw [show l0.getD x.toNat z32 = z32 by simp [List.getD, hx]]; decide
  have HS : Hid (∀ x : Int, (rd_T32 l0 x).f1.size ≤ Lim) := Lib.hid (fun x => by have := HS0 x; unfold Lim; omega)
  have HSM := Lib.hid HS0
  clear h hJ hsm HS0
  go_enter Try.func20, Try.ntmps20
  go_wp2
  go_loopw [11] (fun i wr => ∃ x : Int, i = .int .i64 x ∧ 0 ≤ x ∧ x ≤ l0.length ∧ Hid (∀ j : Nat, (j : Int) < x → okAt l0.length j (l0.getD j z32) = true) ∧ Below w.heap.size w wr) (fun i _ => l0.length - (intOf i).toNat)
  case atStart => exact ⟨0, rfl, by omega, by omega, Lib.hid (fun j hj => by omega), Below.refl _ _⟩
  case round =>
    obtain ⟨x, rfl, hx0, hxn, HO, hB⟩ := hrel
    by_cases hlt : x < (l0.length : Int)
    · obtain ⟨ad, hA, q0, q1, q2⟩ := at_T32 (Kd.C_below HR0.out hB) x hx0 hlt
      have hW1 : wrap64 ((l0.length : Int) - 1) = (l0.length : Int) - 1 := w64 (by omega) (by omega)
      obtain ⟨v, hv⟩ : ∃ v, validB (rd_T32 l0 x).f0 (rd_T32 l0 x).f1.data.toList (rd_T32 l0 x).f2 = v := ⟨_, rfl⟩
      subst hA
      have hx9 : x ≤ 9223372036854775806 := by omega
      have HX0 := Lib.hid hx0
      have HWX : Hid (wrap64 (x + 1) = x + 1) := Lib.hid (w64 (by omega) (by omega))
      have HX1 := Lib.hid hlt
      have p1 := eq_true hx0
      have p2 := eq_true hlt
      clear hx0 hlt
      have HW1 := Lib.hid hW1
      have HV := Lib.hid hv
      clear hW1 hv
      cases v with
      | false =>
        go_wp2_with (go_at_call 18; refine (valid_any _ _ _ (by exact HS.out x) false HV _).mono ?_; rintro e w' ⟨rfl, hb⟩)
        have e1 : (r1, r2) = ((⟨#[]⟩ : ByteArray), (240 : Int)) := by
          rw [← HJ.out, joinR, if_pos]
          refine okFrom_not _ l0 0 x.toNat (by have := HX0.out; have := HX1.out; omega) ?_
          have h1 := HV.out
          unfold rd_T32 at h1
          unfold okAt; rw [h1]; rfl
        obtain ⟨rfl, rfl⟩ := Prod.mk.inj e1
        go_ret2
        exact ⟨rfl, (hB.alloc hB.size _).trans (hb.mono (by have := hB.size; simp; omega))⟩
      | true =>
        go_wp2_with (go_at_call 18; refine (valid_any _ _ _ (by exact HS.out x) true HV _).mono ?_; rintro e w' ⟨rfl, hb⟩; obtain ⟨hc, hf⟩ := bcell hb)
        · have hm : (!(((rd_T32 l0 x).f0 == 0) == (x == (l0.length : Int) - 1))) = true := by assumption
          have e1 : (r1, r2) = ((⟨#[]⟩ : ByteArray), (240 : Int)) := by
            rw [← HJ.out, joinR, if_pos]
            refine okFrom_not _ l0 0 x.toNat (by have := HX0.out; have := HX1.out; omega) ?_
            rw [Nat.zero_add, okAt_rd HX0.out HX1.out HV.out]; simpa using hm
          obtain ⟨rfl, rfl⟩ := Prod.mk.inj e1
          go_ret2
          exact ⟨rfl, (hB.alloc hB.size _).trans (hb.mono (by have := hB.size; simp; omega))⟩
        · go_roundw
          case rel =>
            refine ⟨x + 1, by rw [HWX.out], ?_, ?_, ?_, (hB.alloc hB.size _).trans (hb.mono (by have := hB.size; simp; omega))⟩
            · have := HX0.out; omega
            · have := HX1.out; omega
            · have hm : (!(((rd_T32 l0 x).f0 == 0) == (x == (l0.length : Int) - 1))) = false := by assumption
              refine Lib.hid (fun j hj => ?_)
              by_cases e : (j : Int) = x
              · have := okAt_rd HX0.out HX1.out HV.out
                rw [show x.toNat = j by omega] at this
                rw [this]; simpa using hm
              · exact HO.out j (by omega)
          case measure => have := HX0.out; have := HX1.out; rw [HWX.out]; simp [intOf]; omega
    · have e1 : x = l0.length := by omega
      subst e1
      have HO2 : Hid (okFrom l0.length 0 l0 = true) := Lib.hid (okFrom_all _ _ _ (fun k hk => by rw [Nat.zero_add]; exact HO.out k (by omega)))
      clear hlt hx0 hxn
      by_cases hn0 : l0.length = 0
      · have t1 : ((l0.length : Int) == 0) = true := by simp [hn0]
        have e1 : (r1, r2) = ((⟨#[]⟩ : ByteArray), (240 : Int)) := by
          rw [← HJ.out, joinR, if_neg (by rw [HO2.out]; simp), if_pos hn0]
        clear hn0
        go_wp2_with fail
        obtain ⟨rfl, rfl⟩ := Prod.mk.inj e1
        go_ret2
        exact ⟨rfl, hB⟩
      · have t1 : ((l0.length : Int) == 0) = false := by rw [beq_eq_false_iff_ne]; omega
        by_cases hn1 : l0.length > 65536
        · have e1 : (r1, r2) = ((⟨#[]⟩ : ByteArray), (271 : Int)) := by
            rw [← HJ.out, joinR, if_neg (by rw [HO2.out]; simp), if_neg hn0, if_pos hn1]
          have HE := Lib.hid e1
          clear e1
          have t2 : (65536 : Int) < (l0.length : Int) := by omega
          go_wp2_with fail
          obtain ⟨rfl, rfl⟩ := Prod.mk.inj HE.out
          go_ret2
          exact ⟨rfl, hB⟩
        · have t2 : (l0.length : Int) ≤ 65536 := by omega
          have HJ2 : Hid ((if (joinL false l0).length > 1048576 then ((⟨#[]⟩ : ByteArray), (2 : Int)) else (⟨(joinL false l0).toArray⟩, 0)) = (r1, r2)) := Lib.hid (by
            have E := HJ.out
            rw [joinR, if_neg (by rw [HO2.out]; simp), if_neg hn0, if_neg hn1] at E; exact E)
          clear hn0 hn1
          go_wp2_with fail
          obtain ⟨w1, rfl⟩ : ∃ w1 : World, w1 = wr := ⟨_, rfl⟩
          have hIB : Lib.IsBuilderF 59 5 w1.heap.size w1.heap.size (Lib.byteCells (joinL false (l0.take 0))) (w1.alloc (.cells #[.pointer none, .slice none 0 0] 59)) := Lib.IsBuilderF.of (Lib.fresh_isBuilder 59 5 w1)
          have hB2 : Below w1.heap.size w1 (w1.alloc (.cells #[.pointer none, .slice none 0 0] 59)) := (Below.refl _ _).alloc (Nat.le_refl _) _
          have HI0 := Lib.hid hIB
          clear hIB
          go_loopw [41] (fun i w2 => ∃ x : Int, i = .int .i64 x ∧ 0 ≤ x ∧ x ≤ l0.length ∧ (joinL false (l0.take x.toNat)).length ≤ 1048576 ∧ Lib.IsBuilderF 59 5 w1.heap.size w1.heap.size (Lib.byteCells (joinL false (l0.take x.toNat))) w2 ∧ Below w1.heap.size w1 w2) (fun i _ => l0.length - (intOf i).toNat)
          case atStart => exact ⟨0, rfl, by omega, by omega, by simp [joinL], HI0.out, hB2⟩
          case round =>
            obtain ⟨x, rfl, hx0, hxn, hJL, hI, hB3⟩ := hrel
            by_cases hlt : x < (l0.length : Int)
            · obtain ⟨ad, hA, q0, q1, q2⟩ := at_T32 (Kd.C_below HR0.out (hB.trans (hB3.mono hB.size))) x hx0 hlt
              subst hA
              have hx9 : x ≤ 9223372036854775806 := by omega
              have HX0 := Lib.hid hx0
              have HX1 := Lib.hid hlt
              have HWX : Hid (wrap64 (x + 1) = x + 1) := Lib.hid (w64 (by omega) (by omega))
              have HS1 := Lib.hid (take_step l0 x hx0 hlt)
              have HIX := Lib.hid hI
              have HJL := Lib.hid hJL
              have p1 := eq_true hx0
              have p2 := eq_true hlt
              clear hI hJL hlt hxn
              by_cases hz : x = 0
              · have p5 := eq_false (show ¬ 0 < x by omega)
                have HN : Hid (joinL false (l0.take (x + 1).toNat) = joinL false (List.take (x).toNat l0) ++ (rd_T32 l0 x).f1.data.toList) := Lib.hid (by rw [HS1.out, joinL_snoc, if_neg (by rw [hz]; simp [lastW])]; rfl)
                have HIW := Lib.hid (HIX.out.alloc (.cells #[Value.int .i64 (rd_T32 l0 x).f0, Value.string (rd_T32 l0 x).f1, Value.int .i64 (rd_T32 l0 x).f2] 32))
                have HP : Hid ((joinL false (List.take (x).toNat l0)).length ≤ 1048577) := Lib.hid (by have := HJL.out; omega)
                have hbx : Below wr.heap.size wr (wr.alloc (.cells #[Value.int .i64 (rd_T32 l0 x).f0, Value.string (rd_T32 l0 x).f1, Value.int .i64 (rd_T32 l0 x).f2] 32)) := (Below.refl _ _).alloc (Nat.le_refl _) _
                clear hz hx0
                go_wp2_with fail
                have HT : Hid ((rd_T32 l0 (x)).f1.size ≤ 1048576) := Lib.hid (HSM.out _)
                refine (Try.Builder_WriteString_k _ _ _ _ _ HIW.out ?wl1 ?wb1).mono ?_
                case wl1 => have := HP.out; have := HT.out; rw [Lib.byteCells_length]; omega
                case wb1 => exact Nat.le_of_lt (builder_lt HIW.out).2
                rintro e w3 ⟨rfl, h3, b3, k3⟩
                have HIW2 := Lib.hid (show Lib.IsBuilderF 59 5 w1.heap.size w1.heap.size _ w3 from .inr h3)
                rw [Lib.strCells_eq, ← Lib.byteCells_append, ← HN.out] at HIW2
                clear h3
                go_wp2_with (go_at_call 36; refine (Try.Builder_Len_f _ _ _ _ HIW2.out).mono ?_; rintro e w' ⟨rfl, rfl⟩)
                · have e1 := fin_long (by assumption) HJ2.out
                  obtain ⟨rfl, rfl⟩ := Prod.mk.inj e1
                  go_ret2
                  exact ⟨rfl, hB.trans (Below.mono ((hB3.trans (hbx.mono hB3.size)).trans b3) hB.size)⟩
                · have hle : ((Lib.byteCells (joinL false (List.take (x + 1).toNat l0))).length : Int) ≤ 1048576 := by assumption
                  go_roundw
                  case rel =>
                    refine ⟨x + 1, by first | rfl | rw [HWX.out], ?_, ?_, ?_, HIW2.out, (hB3.trans (hbx.mono hB3.size)).trans b3⟩
                    · have := HX0.out; omega
                    · have := HX1.out; omega
                    · rw [Lib.byteCells_length] at hle; omega
                  case measure => have := HX0.out; have := HX1.out; (first | (rw [HWX.out]; simp [intOf]; omega) | (simp [intOf]; omega))
              · obtain ⟨y, rfl⟩ : ∃ y, x = y + 1 := ⟨x - 1, by omega⟩
                have hy0 : 0 ≤ y := by omega
                have hyn : y < (l0.length : Int) := by have := HX1.out; omega
                obtain ⟨ad', hA', s0, s1, s2⟩ := at_T32 (Kd.C_below HR0.out (hB.trans (hB3.mono hB.size))) y hy0 hyn
                cases hA'
                have s0' := cell_al s0
                have s1' := cell_al s1
                have s2' := cell_al s2
                have p3 := eq_true hy0
                have p4 := eq_true hyn
                have p5 := eq_true (show 0 < y + 1 by omega)
                have HL : Hid (lastW false (l0.take (y + 1).toNat) = wordyB (rd_T32 l0 y)) := Lib.hid (by have := last_take l0 (y + 1) (by omega) (by have := HX1.out; omega); rwa [show y + 1 - 1 = y by omega] at this)
                have hbx : Below wr.heap.size wr (wr.alloc (.cells #[Value.int .i64 (rd_T32 l0 (y + 1)).f0, Value.string (rd_T32 l0 (y + 1)).f1, Value.int .i64 (rd_T32 l0 (y + 1)).f2] 32)) := (Below.refl _ _).alloc (Nat.le_refl _) _
                have HP : Hid ((joinL false (List.take (y + 1).toNat l0)).length ≤ 1048577) := Lib.hid (by have := HJL.out; omega)
                clear hx0 hz hyn
                cases hv1 : wordyB (rd_T32 l0 y) with
                | false =>
                  have HN : Hid (joinL false (l0.take (y + 1 + 1).toNat) = joinL false (List.take (y + 1).toNat l0) ++ (rd_T32 l0 (y + 1)).f1.data.toList) := Lib.hid (by rw [HS1.out, joinL_snoc, HL.out, hv1, if_neg (by simp)]; rfl)
                  have HV1 := Lib.hid hv1
                  clear hv1
                  go_wp2_with (go_at_call 33; refine (wordy_any _ false HV1 _).mono ?_; rintro e w' ⟨rfl, hb⟩; obtain ⟨hc, hf⟩ := bcell hb)
                  have HIW := Lib.hid (builder_below (HIX.out.alloc (.cells #[Value.int .i64 (rd_T32 l0 (y + 1)).f0, Value.string (rd_T32 l0 (y + 1)).f1, Value.int .i64 (rd_T32 l0 (y + 1)).f2] 32)) hb)
                  have HT : Hid ((rd_T32 l0 (y + 1)).f1.size ≤ 1048576) := Lib.hid (HSM.out _)
                  refine (Try.Builder_WriteString_k _ _ _ _ _ HIW.out ?wl2 ?wb2).mono ?_
                  case wl2 => have := HP.out; have := HT.out; rw [Lib.byteCells_length]; omega
                  case wb2 => exact Nat.le_of_lt (builder_lt HIW.out).2
                  rintro e w3 ⟨rfl, h3, b3, k3⟩
                  have HIW2 := Lib.hid (show Lib.IsBuilderF 59 5 w1.heap.size w1.heap.size _ w3 from .inr h3)
                  rw [Lib.strCells_eq, ← Lib.byteCells_append, ← HN.out] at HIW2
                  clear h3
                  go_wp2_with (go_at_call 36; refine (Try.Builder_Len_f _ _ _ _ HIW2.out).mono ?_; rintro e w' ⟨rfl, rfl⟩)
                  · have e1 := fin_long (by assumption) HJ2.out
                    obtain ⟨rfl, rfl⟩ := Prod.mk.inj e1
                    go_ret2
                    exact ⟨rfl, hB.trans (Below.mono (((hB3.trans (hbx.mono hB3.size)).trans (hb.mono (Nat.le_trans hB3.size hbx.size))).trans b3) hB.size)⟩
                  · have hle : ((Lib.byteCells (joinL false (List.take (y + 1 + 1).toNat l0))).length : Int) ≤ 1048576 := by assumption
                    go_roundw
                    case rel =>
                      refine ⟨y + 1 + 1, by first | rfl | rw [HWX.out], ?_, ?_, ?_, HIW2.out, ((hB3.trans (hbx.mono hB3.size)).trans (hb.mono (Nat.le_trans hB3.size hbx.size))).trans b3⟩
                      · have := HX0.out; omega
                      · have := HX1.out; omega
                      · rw [Lib.byteCells_length] at hle; omega
                    case measure => have := HX0.out; have := HX1.out; (first | (rw [HWX.out]; simp [intOf]; omega) | (simp [intOf]; omega))
                | true =>
                  have HV1 := Lib.hid hv1
                  cases hv2 : wordyB (rd_T32 l0 (y + 1)) with
                  | false =>
                    have HN : Hid (joinL false (l0.take (y + 1 + 1).toNat) = joinL false (List.take (y + 1).toNat l0) ++ (rd_T32 l0 (y + 1)).f1.data.toList) := Lib.hid (by rw [HS1.out, joinL_snoc, hv2, if_neg (by simp)]; rfl)
                    have HV2 := Lib.hid hv2
                    clear hv1 hv2
                    have HBX := Lib.hid hbx
                    go_wp2_with fail
                    refine (wordy_any _ true HV1 _).mono ?_
                    rintro e w' ⟨rfl, hb⟩
                    obtain ⟨hc, hf⟩ := bcell hb
                    have hz1 : wr.heap.size + 1 ≤ w'.heap.size := by have := hb.size; simpa using this
                    have hz2 : wr.heap.size < w'.heap.size := hz1
                    go_wp2_with fail
                    refine (wordy_any (rd_T32 l0 (y + 1)) false HV2 _).mono ?_
                    rintro e w2' ⟨rfl, hb2⟩
                    obtain ⟨hc2, hf2⟩ := bcell hb2
                    have HIW := Lib.hid (builder_below (builder_below (HIX.out.alloc (.cells #[Value.int .i64 (rd_T32 l0 (y + 1)).f0, Value.string (rd_T32 l0 (y + 1)).f1, Value.int .i64 (rd_T32 l0 (y + 1)).f2] 32)) hb) hb2)
                    go_wp2_with fail
                    have HT : Hid ((rd_T32 l0 (y + 1)).f1.size ≤ 1048576) := Lib.hid (HSM.out _)
                    refine (Try.Builder_WriteString_k _ _ _ _ _ HIW.out ?wl3 ?wb3).mono ?_
                    case wl3 => have := HP.out; have := HT.out; rw [Lib.byteCells_length]; omega
                    case wb3 => exact Nat.le_of_lt (builder_lt HIW.out).2
                    rintro e w3 ⟨rfl, h3, b3, k3⟩
                    have HIW2 := Lib.hid (show Lib.IsBuilderF 59 5 w1.heap.size w1.heap.size _ w3 from .inr h3)
                    rw [Lib.strCells_eq, ← Lib.byteCells_append, ← HN.out] at HIW2
                    clear h3
                    go_wp2_with (go_at_call 36; refine (Try.Builder_Len_f _ _ _ _ HIW2.out).mono ?_; rintro e w' ⟨rfl, rfl⟩)
                    · have e1 := fin_long (by assumption) HJ2.out
                      obtain ⟨rfl, rfl⟩ := Prod.mk.inj e1
                      go_ret2
                      exact ⟨rfl, hB.trans (Below.mono ((((hB3.trans (hbx.mono hB3.size)).trans (hb.mono (Nat.le_trans hB3.size hbx.size))).trans (hb2.mono (Nat.le_trans (Nat.le_trans hB3.size hbx.size) hb.size))).trans b3) hB.size)⟩
                    · have hle : ((Lib.byteCells (joinL false (List.take (y + 1 + 1).toNat l0))).length : Int) ≤ 1048576 := by assumption
                      go_roundw
                      case rel =>
                        refine ⟨y + 1 + 1, by first | rfl | rw [HWX.out], ?_, ?_, ?_, HIW2.out, (((hB3.trans (hbx.mono hB3.size)).trans (hb.mono (Nat.le_trans hB3.size hbx.size))).trans (hb2.mono (Nat.le_trans (Nat.le_trans hB3.size hbx.size) hb.size))).trans b3⟩
                        · have := HX0.out; omega
                        · have := HX1.out; omega
                        · rw [Lib.byteCells_length] at hle; omega
                      case measure => have := HX0.out; have := HX1.out; (first | (rw [HWX.out]; simp [intOf]; omega) | (simp [intOf]; omega))
                  | true =>
                    have HN : Hid (joinL false (l0.take (y + 1 + 1).toNat) = joinL false (List.take (y + 1).toNat l0) ++ [32] ++ (rd_T32 l0 (y + 1)).f1.data.toList) := Lib.hid (by rw [HS1.out, joinL_snoc, HL.out, hv1, hv2, if_pos ⟨rfl, rfl⟩, List.append_assoc])
                    have HV2 := Lib.hid hv2
                    clear hv1 hv2
                    have HBX := Lib.hid hbx
                    go_wp2_with fail
                    refine (wordy_any _ true HV1 _).mono ?_
                    rintro e w' ⟨rfl, hb⟩
                    obtain ⟨hc, hf⟩ := bcell hb
                    have hz1 : wr.heap.size + 1 ≤ w'.heap.size := by have := hb.size; simpa using this
                    have hz2 : wr.heap.size < w'.heap.size := hz1
                    go_wp2_with fail
                    refine (wordy_any (rd_T32 l0 (y + 1)) true HV2 _).mono ?_
                    rintro e w2' ⟨rfl, hb2⟩
                    obtain ⟨hc2, hf2⟩ := bcell hb2
                    have HIW := Lib.hid (builder_below (builder_below (HIX.out.alloc (.cells #[Value.int .i64 (rd_T32 l0 (y + 1)).f0, Value.string (rd_T32 l0 (y + 1)).f1, Value.int .i64 (rd_T32 l0 (y + 1)).f2] 32)) hb) hb2)
                    go_wp2_with fail
                    clear HP
                    have hbx1 : w2'.heap[wr.heap.size]? = some (.cells #[Value.int .i64 (rd_T32 l0 (y + 1)).f0, Value.string (rd_T32 l0 (y + 1)).f1, Value.int .i64 (rd_T32 l0 (y + 1)).f2] 32) := by
                      have e1 := hb2.block wr.heap.size (by omega)
                      have e2 := hb.block wr.heap.size (by simp)
                      rw [e1, e2]; exact heap_new _ _
                    have HBX1 := Lib.hid hbx1
                    clear hbx1
                    have hne : some wr.heap.size ≠ some w1.heap.size := by have := (builder_lt HIX.out).2; intro h; injection h; omega
                    refine (Try.Builder_WriteByte_k _ _ _ _ _ HIW.out ?ul ?ub).mono ?_
                    case ul => have := HJL.out; rw [Lib.byteCells_length]; omega
                    case ub => exact Nat.le_of_lt (builder_lt HIW.out).2
                    rintro e w4 ⟨rfl, h4, b4, k4⟩
                    have HIW1 := Lib.hid (show Lib.IsBuilderF 59 5 w1.heap.size w1.heap.size _ w4 from .inr h4)
                    have HIW : Hid (Lib.IsBuilderF 59 5 w1.heap.size w1.heap.size (Lib.byteCells (joinL false (List.take (y + 1).toNat l0) ++ [32])) w4) := by rw [Lib.byteCells_append]; exact HIW1
                    have HP : Hid ((joinL false (List.take (y + 1).toNat l0) ++ [32]).length ≤ 1048577) := Lib.hid (by have := HJL.out; rw [List.length_append]; simp; omega)
                    have HBX2 : Hid (w4.heap[wr.heap.size]? = some (.cells #[Value.int .i64 (rd_T32 l0 (y + 1)).f0, Value.string (rd_T32 l0 (y + 1)).f1, Value.int .i64 (rd_T32 l0 (y + 1)).f2] 32)) := Lib.hid (k4 _ _ HBX1.out hne (by intro c fz h; injection h; contradiction))
                    have g0 : w4.cell? ⟨wr.heap.size, 0, none⟩ = some (Value.int .i64 (rd_T32 l0 (y + 1)).f0) := by simp [World.cell?, HBX2.out]
                    have g1 : w4.cell? ⟨wr.heap.size, 1, none⟩ = some (Value.string (rd_T32 l0 (y + 1)).f1) := by simp [World.cell?, HBX2.out]
                    have g2 : w4.cell? ⟨wr.heap.size, 2, none⟩ = some (Value.int .i64 (rd_T32 l0 (y + 1)).f2) := by simp [World.cell?, HBX2.out]
                    clear h4
                    go_wp2_with fail
                    have HT : Hid ((rd_T32 l0 (y + 1)).f1.size ≤ 1048576) := Lib.hid (HSM.out _)
                    refine (Try.Builder_WriteString_k _ _ _ _ _ HIW.out ?wl4 ?wb4).mono ?_
                    case wl4 => have := HP.out; have := HT.out; rw [Lib.byteCells_length]; omega
                    case wb4 => exact Nat.le_of_lt (builder_lt HIW.out).2
                    rintro e w3 ⟨rfl, h3, b3, k3⟩
                    have HIW2 := Lib.hid (show Lib.IsBuilderF 59 5 w1.heap.size w1.heap.size _ w3 from .inr h3)
                    rw [Lib.strCells_eq, ← Lib.byteCells_append, ← HN.out] at HIW2
                    clear h3
                    go_wp2_with (go_at_call 36; refine (Try.Builder_Len_f _ _ _ _ HIW2.out).mono ?_; rintro e w' ⟨rfl, rfl⟩)
                    · have e1 := fin_long (by assumption) HJ2.out
                      obtain ⟨rfl, rfl⟩ := Prod.mk.inj e1
                      go_ret2
                      exact ⟨rfl, hB.trans (Below.mono (((((hB3.trans (hbx.mono hB3.size)).trans (hb.mono (Nat.le_trans hB3.size hbx.size))).trans (hb2.mono (Nat.le_trans (Nat.le_trans hB3.size hbx.size) hb.size))).trans b4).trans b3) hB.size)⟩
                    · have hle : ((Lib.byteCells (joinL false (List.take (y + 1 + 1).toNat l0))).length : Int) ≤ 1048576 := by assumption
                      go_roundw
                      case rel =>
                        refine ⟨y + 1 + 1, by first | rfl | rw [HWX.out], ?_, ?_, ?_, HIW2.out, ((((hB3.trans (hbx.mono hB3.size)).trans (hb.mono (Nat.le_trans hB3.size hbx.size))).trans (hb2.mono (Nat.le_trans (Nat.le_trans hB3.size hbx.size) hb.size))).trans b4).trans b3⟩
                        · have := HX0.out; omega
                        · have := HX1.out; omega
                        · rw [Lib.byteCells_length] at hle; omega
                      case measure => have := HX0.out; have := HX1.out; (first | (rw [HWX.out]; simp [intOf]; omega) | (simp [intOf]; omega))
            · have e1 : x = l0.length := by omega
              subst e1
              have HIX := Lib.hid hI
              have E := HJ2.out
              rw [Int.toNat_natCast, List.take_length] at HIX hJL
              rw [if_neg (by omega)] at E
              obtain ⟨rfl, rfl⟩ := Prod.mk.inj E
              clear E hI hlt hx0 hxn hJL
              go_wp2_with (go_at_call 37; refine (Try.Builder_String_any_k _ _ _ _ HIX.out (by exact Nat.le_of_lt (builder_lt HIX.out).2)).mono ?_; rintro e w' ⟨rfl, h5, b5, k5⟩)
              go_ret2
              exact ⟨rfl, hB.trans (Below.mono (hB3.trans b5) hB.size)⟩
end Go.Proofs.Ytdcjgibdfpldgaa.PLex
