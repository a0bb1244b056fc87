/- Parts of the proof, behind one another; unused words are left out. -/
import Derived.Test.YthmeocigliephaaGreatDoorXe04
import Derived.Deep.RegionHeld3
set_option linter.unusedVariables false
set_option linter.unusedSimpArgs false
set_option linter.unusedSectionVars false
set_option exponentiation.threshold 100000
section
namespace Go.Proofs.YthmeocigliephaaGreatDoor.Plain
open Go.RowKit Go.Proofs.YthmeocigliephaaGreatDoorW.PrintWords Go.Proofs.YthmeocigliephaaGreatDoorW.PrintLast Go.Proofs.YthmeocigliephaaGreatDoorW.PrintMore
open Go.Proofs.YthmeocigliephaaGreatDoor.PSu Go.Proofs.YthmeocigliephaaGreatDoor.Big
theorem getD_zero {l : List Int} {i d : Nat} (h : ¬ i < l.length) (hd : l.getD i 0 = (d : Int)) : d = 0 := by
  rw [List.getD_eq_getElem?_getD, List.getElem?_eq_none (by omega)] at hd; simp at hd; omega
theorem rsum_step (k : Nat) (p q x : List Int) (i c pd qd : Nat) (hc : c ≤ 1) (hpd : p.getD i 0 = (pd : Int)) (hp1 : pd < 4294967296) (hqd : q.getD i 0 = (qd : Int)) (hq1 : qd < 4294967296) (hx : x.length < 35184372088832) (hi : i < p.length ∨ i < q.length) (hb : i < 4611686018427387904) :
    cuspref02_sum.l0 (k + 1 + 1) p q x (c : Int) (i : Int) = cuspref02_sum.l0 k p q (x ++ [(((c + pd + qd) % 4294967296 : Nat) : Int)]) (((c + pd + qd) / 4294967296 : Nat) : Int) ((i + 1 : Nat) : Int) := by
  have e1 : IntKind.u64.wrap ((c : Int) + IntKind.u64.wrap (pd : Int)) = ((c + pd : Nat) : Int) := by rw [u64_of (x := (pd : Int)) (by omega) (by omega), u64_of (by omega) (by omega)]; omega
  have e2 : IntKind.u64.wrap (((c + pd : Nat) : Int) + IntKind.u64.wrap (qd : Int)) = ((c + pd + qd : Nat) : Int) := by rw [u64_of (x := (qd : Int)) (by omega) (by omega), u64_of (by omega) (by omega)]; omega
  have e3 : IntKind.u64.wrap ((c : Int) + IntKind.u64.wrap (qd : Int)) = ((c + qd : Nat) : Int) := by rw [u64_of (x := (qd : Int)) (by omega) (by omega), u64_of (by omega) (by omega)]; omega
  rw [cuspref02_sum.l0]
  by_cases h1 : i < p.length
  · rw [if_pos (by omega), cuspref02_sum.j1, if_pos rfl, if_pos (by omega), if_pos (by omega), rd_nat, hpd, e1]
    by_cases h2 : i < q.length
    · rw [if_pos (by omega), if_pos hx, rd_nat, hqd, e2, w64_succ hb,
        show ((c + pd + qd : Nat) : Int) % 4294967296 = (((c + pd + qd) % 4294967296 : Nat) : Int) from by omega, show ((c + pd + qd : Nat) : Int) / 4294967296 = (((c + pd + qd) / 4294967296 : Nat) : Int) from by omega]
    · have := getD_zero h2 hqd
      subst this
      rw [if_neg (by omega), if_pos hx, w64_succ hb,
        show ((c + pd : Nat) : Int) % 4294967296 = (((c + pd + 0) % 4294967296 : Nat) : Int) from by omega, show ((c + pd : Nat) : Int) / 4294967296 = (((c + pd + 0) / 4294967296 : Nat) : Int) from by omega]
  · have := getD_zero h1 hpd
    subst this
    have h2 : i < q.length := by omega
    rw [if_neg (by omega), cuspref02_sum.j1, if_pos (by simp; omega), if_neg (by omega), if_pos (by omega), if_pos (by omega), if_pos hx, rd_nat, hqd, e3, w64_succ hb,
      show ((c + qd : Nat) : Int) % 4294967296 = (((c + 0 + qd) % 4294967296 : Nat) : Int) from by omega, show ((c + qd : Nat) : Int) / 4294967296 = (((c + 0 + qd) / 4294967296 : Nat) : Int) from by omega]
theorem rsum_ev (p q : List Int) (hp : Nrm p) (hq : Nrm q) (M : Nat) (hM : M = if p.length < q.length then q.length else p.length) (hb : M < 35184372088830) :
    ∀ (d i c : Nat) (x : List Int), d = M - i → i ≤ M → x.length = i → Dg x → c ≤ 1 → val x + 2 ^ (32 * i) * c = val (p.take i) + val (q.take i) →
      Ev (fun k => cuspref02_sum.l0 k p q x (c : Int) (i : Int)) (dig (val p + val q)) := by
  have hpM : p.length ≤ M := by rw [hM]; split <;> omega
  have hqM : q.length ≤ M := by rw [hM]; split <;> omega
  have hor : M = p.length ∨ M = q.length := by rw [hM]; split <;> omega
  intro d
  induction d with
  | zero =>
    intro i c x hd hi hx hdx hc hv
    have hi' : i = M := by omega
    subst hi'
    rw [List.take_of_length_le hpM, List.take_of_length_le hqM] at hv
    have hstop : ∀ k, cuspref02_sum.l0 (k + 1 + 1) p q x (c : Int) (i : Int) = if (c : Int) > 0 then (if x.length < 35184372088832 then some (x ++ [(c : Int) % 4294967296]) else none) else some x := by
      intro k
      rw [cuspref02_sum.l0, if_neg (by omega), cuspref02_sum.j1, if_neg (by simp; omega)]
    by_cases h0 : c = 0
    · subst h0
      have e : dig (val p + val q) = x := by
        rw [← hv, Nat.mul_zero, Nat.add_zero]
        refine (dig_of_ge hdx (fun hn => ?_)).symm
        have hxp : 0 < x.length := List.length_pos_iff.2 hn
        rcases hor with h | h
        · have := le_of_dig_length (n := val p) (k := x.length - 1) (by rw [dig_val hp]; omega)
          omega
        · have := le_of_dig_length (n := val q) (k := x.length - 1) (by rw [dig_val hq]; omega)
          omega
      rw [e]
      refine Ev.step (f := fun k => cuspref02_sum.l0 (k + 1) p q x ((0 : Nat) : Int) (i : Int)) (fun k => rfl) (Ev.step (f := fun _ => some x) (fun k => ?_) (Ev.now _))
      rw [hstop, if_neg (by omega)]
    · obtain rfl : c = 1 := by omega
      have e : dig (val p + val q) = x ++ [((1 : Nat) : Int)] := by
        rw [← hv, show val x + 2 ^ (32 * i) * 1 = val (x ++ [((1 : Nat) : Int)]) by rw [val_snoc, hx]; rfl]
        exact dig_val (nrm_snoc hdx (by omega) (by omega))
      rw [e]
      refine Ev.step (f := fun k => cuspref02_sum.l0 (k + 1) p q x ((1 : Nat) : Int) (i : Int)) (fun k => rfl) (Ev.step (f := fun _ => some (x ++ [((1 : Nat) : Int)])) (fun k => ?_) (Ev.now _))
      rw [hstop, if_pos (by omega), if_pos (by omega)]
      rfl
  | succ d ih =>
    intro i c x hd hi hx hdx hc hv
    obtain ⟨pd, hpd, hp1⟩ := hp.1.nat i
    obtain ⟨qd, hqd, hq1⟩ := hq.1.nat i
    have tp := val_take_succ' p i
    have tq := val_take_succ' q i
    rw [hpd, Int.toNat_natCast] at tp
    rw [hqd, Int.toNat_natCast] at tq
    have hnew : ∀ s : Nat, s = c + pd + qd → val (x ++ [((s % 4294967296 : Nat) : Int)]) + 2 ^ (32 * (i + 1)) * (s / 4294967296) = val (p.take (i + 1)) + val (q.take (i + 1)) := by
      intro s hs
      rw [val_snoc, hx, tp, tq, Int.toNat_natCast, pow32_succ]
      have h1 : 2 ^ (32 * i) * (s % 4294967296) + 4294967296 * 2 ^ (32 * i) * (s / 4294967296) = 2 ^ (32 * i) * s := by
        rw [Nat.mul_comm 4294967296, Nat.mul_assoc, ← Nat.mul_add]; congr 1; omega
      have h2 : 2 ^ (32 * i) * s = 2 ^ (32 * i) * c + 2 ^ (32 * i) * pd + 2 ^ (32 * i) * qd := by rw [hs, Nat.mul_add, Nat.mul_add]
      omega
    have h := ih (i + 1) ((c + pd + qd) / 4294967296) (x ++ [(((c + pd + qd) % 4294967296 : Nat) : Int)]) (by omega) (by omega) (by simp [hx]) (hdx.append (Dg.one (by omega) (by omega))) (by omega) (hnew _ rfl)
    refine Ev.step (f := fun k => cuspref02_sum.l0 (k + 1) p q x (c : Int) (i : Int)) (fun k => rfl) (Ev.step (fun k => ?_) h)
    exact rsum_step k p q x i c pd qd hc hpd hp1 hqd hq1 (by omega) (by omega) (by omega)
theorem rsum_law (a b : Nat) (ha : (dig a).length < 35184372088830) (hb : (dig b).length < 35184372088830) : Ev (fun k => cuspref02_sum.f k (dig a) (dig b)) (dig (a + b)) := by
  have h := rsum_ev (dig a) (dig b) (nrm_dig a) (nrm_dig b) _ rfl (by split <;> omega) _ 0 0 [] rfl (by omega) rfl Dg.nil (by omega) (by simp)
  rw [val_dig, val_dig] at h
  exact h
theorem bit_at (v i : Nat) : v / 2 ^ (32 * (i / 32)) % 4294967296 / 2 ^ (i % 32) % 2 = v / 2 ^ i % 2 := by
  have h1 : (4294967296 : Nat) = 2 ^ (i % 32) * (2 * 2 ^ (31 - i % 32)) := by
    rw [← Nat.pow_succ', ← Nat.pow_add, show i % 32 + (31 - i % 32).succ = 32 by omega]
  have h2 : v / 2 ^ i = v / 2 ^ (32 * (i / 32)) / 2 ^ (i % 32) := by rw [Nat.div_div_eq_div_mul, ← Nat.pow_add]; congr 2; omega
  rw [h2, h1, Nat.mod_mul_right_div_self, Nat.mod_mul_right_mod]
theorem low_bit (v i : Nat) (h0 : v ≠ 0) (hi : i ≤ tz v) : (v / 2 ^ i % 2 = 0 ↔ i < tz v) := by
  obtain ⟨m, hm⟩ := tz_spec h0
  have hp : 0 < 2 ^ i := Nat.pow_pos (by omega)
  have e : v / 2 ^ i = 2 ^ (tz v - i) * (2 * m + 1) := by
    have : v = 2 ^ i * (2 ^ (tz v - i) * (2 * m + 1)) := by rw [← Nat.mul_assoc, ← Nat.pow_add, show i + (tz v - i) = tz v by omega]; exact hm
    exact Nat.div_eq_of_eq_mul_right hp this
  rw [e]
  constructor
  · intro h
    rcases Nat.lt_or_ge i (tz v) with h1 | h1
    · exact h1
    · rw [show tz v - i = 0 by omega, Nat.pow_zero] at h; omega
  · intro h
    rw [show tz v - i = (tz v - i - 1) + 1 by omega, Nat.pow_succ, Nat.mul_comm (2 ^ (tz v - i - 1)) 2, Nat.mul_assoc]; omega
theorem rnorm_ev (neg : Bool) (v : Nat) (e : Int) (h0 : v ≠ 0) (hb : (dig v).length < 1000000) (he : -4000000000 ≤ e) (he1 : e ≤ 4000000000) :
    ∀ d i : Nat, i + d = tz v → Ev (fun k => cuspref02_norm.l0 k neg (dig v) e (i : Int)) (neg, dig (v / 2 ^ tz v), e + tz v) := by
  have htz : tz v < 32 * (dig v).length := by
    have h1 := tz_le h0
    have h2 := lt_dig_length v
    exact (Nat.pow_lt_pow_iff_right (by omega)).1 (Nat.lt_of_le_of_lt h1 h2)
  have hdl : (dig (v / 2 ^ tz v)).length ≤ (dig v).length := dig_length_mono (Nat.div_le_self _ _)
  intro d
  induction d with
  | zero =>
    intro i hi
    have hi' : i = tz v := by omega
    subst hi'
    have ew : wrap64 (Int.tdiv ((tz v : Nat) : Int) 32) = ((tz v / 32 : Nat) : Int) := by
      rw [Int.tdiv_eq_ediv_of_nonneg (by omega), show (((tz v : Nat) : Int) / 32) = ((tz v / 32 : Nat) : Int) by omega, w64_nat (by omega)]
    have em : IntKind.u64.wrap (Int.tmod ((tz v : Nat) : Int) 32) = ((tz v % 32 : Nat) : Int) := by rw [Int.tmod_eq_emod_of_nonneg (by omega), u64_of (by omega) (by omega)]; omega
    obtain ⟨g, hg, hg1⟩ := (dg_dig v).nat (tz v / 32)
    have hgv := val_get (dg_dig v) (tz v / 32)
    rw [hg, Int.toNat_natCast, val_dig] at hgv
    have hbit := bit_at v (tz v)
    rw [← hgv] at hbit
    have hb1 : g / 2 ^ (tz v % 32) % 2 = 1 := by
      rw [hbit]
      have : v / 2 ^ tz v % 2 ≠ 0 := fun h => Nat.lt_irrefl _ ((low_bit v (tz v) h0 (Nat.le_refl _)).1 h)
      omega
    have hsh : bits .and .u32 (shr .u32 (g : Int) ((tz v % 32 : Nat) : Int)) 1 = 1 := by
      have hmin' : min (((tz v % 32 : Nat) : Int)).toNat IntKind.u32.bits = tz v % 32 := by simp [IntKind.bits]; omega
      unfold shr
      rw [hmin', show ((2 : Int) ^ (tz v % 32)) = ((2 ^ (tz v % 32) : Nat) : Int) by rw [Int.natCast_pow]; rfl, ← Int.natCast_ediv, bits_and1_u32 _ (Nat.lt_of_le_of_lt (Nat.div_le_self _ _) hg1), hb1]; rfl
    have hd := rdown_law v (tz v) (by omega) (by omega)
    refine Ev.step (f := fun k => (cuspref02_down.f k (dig v) ((tz v : Nat) : Int)).bind fun bt => some (neg, [] ++ bt.1, e + tz v)) (fun k => ?_) (Ev.bind hd (Ev.now _))
    rw [cuspref02_norm.l0, ew, if_pos (by omega), if_pos (by omega), em, if_pos (by omega), rd_nat, hg, if_neg (by rw [hsh]; omega)]
    rcases hq : cuspref02_down.f k (dig v) ((tz v : Nat) : Int) with _ | ⟨u1, u2⟩
    · rfl
    · rw [Option.bind_some, Option.bind_some, if_pos (by omega), Option.bind_some, List.replicate_zero]
      have hk : u1 = dig (v / 2 ^ tz v) := by
        have h1 := hd
        obtain ⟨K, hK⟩ := h1
        have hmono := at_rounds (g := fun k => cuspref02_down.f k (dig v) ((tz v : Nat) : Int)) (fun k => cuspref02_down.mono _ _ k) (Nat.le_max_left k K) hq
        have hK2 : cuspref02_down.f (max k K) (dig v) ((tz v : Nat) : Int) = some (dig (v / 2 ^ tz v), decide (v % 2 ^ tz v = 0)) := hK _ (Nat.le_max_right k K)
        have := Option.some.inj (hK2.symm.trans hmono)
        exact (Prod.mk.inj this).1.symm
      rw [hk, if_pos (by simp; omega), w64_of (by omega) (by omega)]
  | succ d ih =>
    intro i hi
    have ew : wrap64 (Int.tdiv ((i : Nat) : Int) 32) = ((i / 32 : Nat) : Int) := by
      rw [Int.tdiv_eq_ediv_of_nonneg (by omega), show (((i : Nat) : Int) / 32) = ((i / 32 : Nat) : Int) by omega, w64_nat (by omega)]
    have em : IntKind.u64.wrap (Int.tmod ((i : Nat) : Int) 32) = ((i % 32 : Nat) : Int) := by rw [Int.tmod_eq_emod_of_nonneg (by omega), u64_of (by omega) (by omega)]; omega
    obtain ⟨g, hg, hg1⟩ := (dg_dig v).nat (i / 32)
    have hgv := val_get (dg_dig v) (i / 32)
    rw [hg, Int.toNat_natCast, val_dig] at hgv
    have hbit := bit_at v i
    rw [← hgv] at hbit
    have hb1 : g / 2 ^ (i % 32) % 2 = 0 := by rw [hbit]; exact (low_bit v i h0 (by omega)).2 (by omega)
    have hsh : bits .and .u32 (shr .u32 (g : Int) ((i % 32 : Nat) : Int)) 1 = 0 := by
      have hmin' : min (((i % 32 : Nat) : Int)).toNat IntKind.u32.bits = i % 32 := by simp [IntKind.bits]; omega
      unfold shr
      rw [hmin', show ((2 : Int) ^ (i % 32)) = ((2 ^ (i % 32) : Nat) : Int) by rw [Int.natCast_pow]; rfl, ← Int.natCast_ediv, bits_and1_u32 _ (Nat.lt_of_le_of_lt (Nat.div_le_self _ _) hg1), hb1]; rfl
    refine Ev.step (fun k => ?_) (ih (i + 1) (by omega))
    rw [cuspref02_norm.l0, ew, if_pos (by omega), if_pos (by omega), em, if_pos (by omega), rd_nat, hg, if_pos hsh, w64_succ (by omega)]
theorem rnorm_law (neg : Bool) (l : List Int) (e : Int) (hd : Dg l) (hb : l.length < 1000000) (he : -4000000000 ≤ e) (he1 : e ≤ 4000000000) :
    Ev (fun k => cuspref02_norm.f k neg l e) (canN (if neg = true then -(val l : Int) else val l) e) := by
  unfold cuspref02_norm.f
  refine Ev.bind (rtrim_law hd (by omega)) ?_
  by_cases h0 : val l = 0
  · rw [h0, dig_zero]
    have : (if neg = true then -((0 : Nat) : Int) else ((0 : Nat) : Int)) = 0 := by cases neg <;> rfl
    rw [this, canN_zero]
    exact Ev.congr (fun k => if_pos rfl) (Ev.now _)
  · have hne := dig_ne h0
    have hl : (dig (val l)).length ≠ 0 := fun h => hne (List.length_eq_zero_iff.1 h)
    have hll := dig_length_le_of hd
    have hz : (if neg = true then -(val l : Int) else (val l : Int)) ≠ 0 := by cases neg <;> simp <;> omega
    have hna : (if neg = true then -(val l : Int) else (val l : Int)).natAbs = val l := by cases neg <;> simp
    have hlt : decide ((if neg = true then -(val l : Int) else (val l : Int)) < 0) = neg := by
      cases neg
      · simp
      · simp; omega
    rw [canN_ne hz, hna, hlt]
    exact Ev.congr (fun k => if_neg (by omega)) (rnorm_ev neg (val l) e h0 (by omega) he he1 (tz (val l)) 0 (by omega))
end Go.Proofs.YthmeocigliephaaGreatDoor.Plain
end
section
namespace Go.Proofs.YthmeocigliephaaGreatDoor.Big
open Go.RowKit Go.Proofs.YthmeocigliephaaGreatDoorW.PrintWords Go.Proofs.YthmeocigliephaaGreatDoorW.PrintLast Go.Proofs.YthmeocigliephaaGreatDoorW.PrintMore
open Go.Proofs.YthmeocigliephaaGreatDoor.PSu Go.Proofs.YthmeocigliephaaGreatDoor.Plain
attribute [local go_sem] max2_int min2_int max_two min_two
def RetR (r : Bool × List Int × Int) (w : World) (e : Ending) (w' : World) : Prop :=
  ∃ v1_ : Value, e = .returned (.agg #[.bool r.1, v1_, .int .i64 r.2.2]) ∧ Kd.R (Kd.int .u32) 83 w' w.heap.size (fun _ => True) v1_ r.2.1 ∧ Below w.heap.size w w'
structure PlW (W0 W : World) (na : Bool) (la : List Int) (ea : Int) (A : Option Addr) (c : Nat) (nb : Bool) (lb : List Int) (eb : Int) (B : Option Addr) (d : Nat) : Prop where
  a : RB W W0.heap.size na (.slice A la.length c) ea
  b : RB W (W0.heap.size + 1) nb (.slice B lb.length d) eb
  r : RB W (W0.heap.size + 1 + 1) false (.slice none 0 0) 0
  ra : Kd.C (Kd.int .u32) W A la.length la
  rb : Kd.C (Kd.int .u32) W B lb.length lb
  keep : Below W0.heap.size W0 W
section
variable {W0 W W' : World} {na : Bool} {la : List Int} {ea : Int} {A : Option Addr} {c : Nat} {nb : Bool} {lb : List Int} {eb : Int} {B : Option Addr} {d : Nat}
theorem PlW.step (h : PlW W0 W na la ea A c nb lb eb B d) (k : Below W.heap.size W W') : PlW W0 W' na la ea A c nb lb eb B d :=
  ⟨h.a.below k, h.b.below k, h.r.below k, Kd.C_below h.ra k, Kd.C_below h.rb k, below_post k h.keep⟩
theorem plW_new (ha : Kd.C (Kd.int .u32) W0 A la.length la) (hb : Kd.C (Kd.int .u32) W0 B lb.length lb) :
    PlW W0 (((W0.alloc (.cells #[.bool na, .slice A la.length c, .int .i64 ea] 41 (0, 0))).alloc (.cells #[.bool nb, .slice B lb.length d, .int .i64 eb] 41 (0, 0))).alloc (.cells #[.bool false, .slice none 0 0, .int .i64 0] 41 (0, 0))) na la ea A c nb lb eb B d := by
  have b3 := (((Below.refl W0.heap.size W0).alloc (Nat.le_refl _) (.cells #[.bool na, .slice A la.length c, .int .i64 ea] 41 (0, 0))).alloc (by simp) (.cells #[.bool nb, .slice B lb.length d, .int .i64 eb] 41 (0, 0))).alloc (by simp; omega) (.cells #[.bool false, .slice none 0 0, .int .i64 0] 41 (0, 0))
  have e1 : ∀ (w : World) (o : Obj) (n : Bool) (v : Value) (e : Int), RB ((w.alloc o).alloc (.cells #[.bool n, v, .int .i64 e] 41 (0, 0))) (w.heap.size + 1) n v e := fun w o n v e => by
    unfold RB; rw [show w.heap.size + 1 = (w.alloc o).heap.size by simp]; exact blk_new _ _
  refine ⟨blk_alloc (blk_alloc (blk_new _ _) _) _, blk_alloc (e1 _ _ _ _ _) _, ?_, Kd.C_below ha b3, Kd.C_below hb b3, b3⟩
  have := e1 (W0.alloc (.cells #[.bool na, .slice A la.length c, .int .i64 ea] 41 (0, 0))) (.cells #[.bool nb, .slice B lb.length d, .int .i64 eb] 41 (0, 0)) false (.slice none 0 0) 0
  rwa [show (W0.alloc (.cells #[.bool na, .slice A la.length c, .int .i64 ea] 41 (0, 0))).heap.size = W0.heap.size + 1 by simp] at this
end
section
variable (na : Bool) (la : List Int) (ea : Int) (A : Option Addr) (c : Nat) (nb : Bool) (lb : List Int) (eb : Int) (B : Option Addr) (d : Nat) (w : World)
  (ha : Kd.C (Kd.int .u32) w A la.length la) (hc : la.length ≤ c) (hb : Kd.C (Kd.int .u32) w B lb.length lb) (hd : lb.length ≤ d)
include ha hc hb hd
set_option maxRecDepth 100000 in
set_option maxHeartbeats 1000000 in
theorem plus_a0 (hla : la.length = 0) (hlb : lb.length < 35184372088832) :
    Calls Tryz.prog 25 #[.agg #[.bool na, .slice A la.length c, .int .i64 ea], .agg #[.bool nb, .slice B lb.length d, .int .i64 eb]] w (RetR (nb, lb, eb) w) := by
  have T0 := Aside0.mk (plW_new (na := na) (ea := ea) (c := c) (nb := nb) (eb := eb) (d := d) ha hb)
  have HC := Aside0.mk hc
  have HD := Aside0.mk hd
  have z0 : (((la.length : Nat) : Int) == 0) = true := by rw [hla]; rfl
  have TW := Aside0.mk (show cuspref02_twin.f nb lb eb = some (nb, lb, eb) by unfold cuspref02_twin.f; rw [if_pos (by simp; omega)]; rfl)
  clear ha hc hb hd hla
  go_enter Tryz.func25, Tryz.ntmps25
  go_wp2_with (first
    | (go_at_call 63; refine (cuspref02_twin.calls nb B d lb eb nb lb eb _ T0.out.rb HD.out TW.out).mono ?_; rintro e1 w1 ⟨u, rfl, r1, d1⟩; obtain ⟨Au, cu, hu⟩ := Kd.R_slice r1; subst hu; have T1 := Aside0.mk (T0.out.step d1); have q0 := T1.out.r.c0; have q1 := T1.out.r.c1; have q2 := T1.out.r.c2; have q3 := T1.out.r.fr 0; have q4 := T1.out.r.fr 1; have q5 := T1.out.r.fr 2; have R1 := Aside0.mk r1; have ltr := Aside0.mk (blk_lt T0.out.r); clear d1 r1))
  refine bodyPost_ret (v := .agg #[.bool nb, .slice Au lb.length cu, .int .i64 eb]) (by simp [results, Tryz.results25, go_sem, q0, q1, q2, q3, q4, q5]) rfl ?_
  have lt := ltr.out
  exact ⟨_, rfl, Kd.R_lower (r_set (r_set (r_set R1.out _ (by first | (simp; done) | simpa using lt) _) _ (by first | (simp; done) | simpa using lt) _) _ (by first | (simp; done) | simpa using lt) _) T0.out.keep.size, ((T1.out.keep.setCell (by simp; omega) _).setCell (by simp; omega) _).setCell (by simp; omega) _⟩
set_option maxRecDepth 100000 in
set_option maxHeartbeats 1000000 in
theorem plus_b0 (hla : la.length ≠ 0) (hlb : lb.length = 0) (hla2 : la.length < 35184372088832) :
    Calls Tryz.prog 25 #[.agg #[.bool na, .slice A la.length c, .int .i64 ea], .agg #[.bool nb, .slice B lb.length d, .int .i64 eb]] w (RetR (na, la, ea) w) := by
  have T0 := Aside0.mk (plW_new (na := na) (ea := ea) (c := c) (nb := nb) (eb := eb) (d := d) ha hb)
  have HC := Aside0.mk hc
  have HD := Aside0.mk hd
  have z0 : (((la.length : Nat) : Int) == 0) = false := by rw [beq_eq_false_iff_ne]; omega
  have z1 : (((lb.length : Nat) : Int) == 0) = true := by rw [hlb]; rfl
  have TW := Aside0.mk (show cuspref02_twin.f na la ea = some (na, la, ea) by unfold cuspref02_twin.f; rw [if_pos (by simp; omega)]; rfl)
  clear ha hc hb hd hla hlb
  go_enter Tryz.func25, Tryz.ntmps25
  go_wp2_with (first
    | (go_at_call 63; refine (cuspref02_twin.calls na A c la ea na la ea _ T0.out.ra HC.out TW.out).mono ?_; rintro e1 w1 ⟨u, rfl, r1, d1⟩; obtain ⟨Au, cu, hu⟩ := Kd.R_slice r1; subst hu; have T1 := Aside0.mk (T0.out.step d1); have q0 := T1.out.r.c0; have q1 := T1.out.r.c1; have q2 := T1.out.r.c2; have q3 := T1.out.r.fr 0; have q4 := T1.out.r.fr 1; have q5 := T1.out.r.fr 2; have R1 := Aside0.mk r1; have ltr := Aside0.mk (blk_lt T0.out.r); clear d1 r1))
  refine bodyPost_ret (v := .agg #[.bool na, .slice Au la.length cu, .int .i64 ea]) (by simp [results, Tryz.results25, go_sem, q0, q1, q2, q3, q4, q5]) rfl ?_
  have lt := ltr.out
  exact ⟨_, rfl, Kd.R_lower (r_set (r_set (r_set R1.out _ (by first | (simp; done) | simpa using lt) _) _ (by first | (simp; done) | simpa using lt) _) _ (by first | (simp; done) | simpa using lt) _) T0.out.keep.size, ((T1.out.keep.setCell (by simp; omega) _).setCell (by simp; omega) _).setCell (by simp; omega) _⟩
set_option maxRecDepth 100000 in
set_option maxHeartbeats 1000000 in
theorem plus_same (k1 k2 k3 k4 k5 : Nat) (ua ub us : List Int) (E : Int) (hE : (if eb < ea then eb else ea) = E) (hla : la.length ≠ 0) (hlb : lb.length ≠ 0) (he0 : -10000000 ≤ ea) (he1 : ea ≤ 10000000) (he2 : -10000000 ≤ eb) (he3 : eb ≤ 10000000) (hu1 : cuspref02_up.f k1 la (ea - E) = some ua) (hu2 : cuspref02_up.f k2 lb (eb - E) = some ub) (r1 : Bool) (r2 : List Int) (r3 : Int) (hab : na = nb) (hs : cuspref02_sum.f k4 ua ub = some us) (hn : cuspref02_norm.f k5 na us E = some (r1, r2, r3)) :
    Calls Tryz.prog 25 #[.agg #[.bool na, .slice A la.length c, .int .i64 ea], .agg #[.bool nb, .slice B lb.length d, .int .i64 eb]] w (RetR (r1, r2, r3) w) := by
  have T0 := Aside0.mk (plW_new (na := na) (ea := ea) (c := c) (nb := nb) (eb := eb) (d := d) ha hb)
  have HC := Aside0.mk hc
  have HD := Aside0.mk hd
  have z0 : (((la.length : Nat) : Int) == 0) = false := by rw [beq_eq_false_iff_ne]; omega
  have z1 : (((lb.length : Nat) : Int) == 0) = false := by rw [beq_eq_false_iff_ne]; omega
  have hEa : E ≤ ea ∧ E ≤ eb ∧ -10000000 ≤ E := by rw [← hE]; split <;> omega
  obtain ⟨hEa1, hEa2, hEa3⟩ := hEa
  have U1 := Aside0.mk hu1
  have U2 := Aside0.mk hu2
  have S1 := Aside0.mk hs
  have N1 := Aside0.mk hn
  have tok1 : True := trivial
  have hab1 : (na == nb) = true := by rw [hab]; cases nb <;> rfl
  clear ha hc hb hd hla hlb hu1 hu2 hs hn hab
  go_enter Tryz.func25, Tryz.ntmps25
  go_upto_region 9 with (first
    | (go_at_call 64; have _t := tok1; refine (cuspref02_up.calls k1 A c la (ea - E) ua _ T0.out.ra HC.out U1.out).mono ?_; rintro e1 w4 ⟨v4, rfl, r4, d4⟩; obtain ⟨A4, c4, hv4⟩ := Kd.R_slice r4; subst hv4; have R4 := Aside0.mk (Kd.R_reads' r4); have T4 := Aside0.mk (T0.out.step d4); have a40 := T4.out.a.c0; have a41 := T4.out.a.c1; have a42 := T4.out.a.c2; have b40 := T4.out.b.c0; have b41 := T4.out.b.c1; have b42 := T4.out.b.c2; have r40 := T4.out.r.c0; have r41 := T4.out.r.c1; have r42 := T4.out.r.c2; clear d4 r4 _t tok1)
    | (go_at_call 64; refine (cuspref02_up.calls k2 B d lb (eb - E) ub _ T4.out.rb HD.out U2.out).mono ?_; rintro e1 w5 ⟨v5, rfl, r5, d5⟩; obtain ⟨A5, c5, hv5⟩ := Kd.R_slice r5; subst hv5; have R5 := Aside0.mk (Kd.R_reads' r5); have C4 := Aside0.mk (Kd.C_below R4.out.2.2 d5); have T5 := Aside0.mk (T4.out.step d5); have a50 := T5.out.a.c0; have a51 := T5.out.a.c1; have a52 := T5.out.a.c2; have b50 := T5.out.b.c0; have b51 := T5.out.b.c1; have b52 := T5.out.b.c2; have r50 := T5.out.r.c0; have r51 := T5.out.r.c1; have r52 := T5.out.r.c2; clear d5 r5))
  go_region_held3 (fun w' => w'.cell? ⟨w.heap.size, 0, none⟩ = some (.bool na))
    (first | exact a50 | exact S8.out | exact S7.out | (have _s := S8; exact (set3_cell _ _ _ _ _ _ _ (by omega)).trans S8.out) | go_keep)
    ((first
      | (go_at_call 66; refine (cuspref02_sum.calls k4 A4 c4 ua A5 c5 ub us _ (Kd.C_below C4.out (by first | exact Below.refl _ _ | exact (Below.refl _ _).drew)) R4.out.2.1 (Kd.C_below R5.out.2.2 (by first | exact Below.refl _ _ | exact (Below.refl _ _).drew)) R5.out.2.1 S1.out).mono ?_; rintro e1 w7 ⟨v7, rfl, r7, d7⟩; have B7 := Aside0.mk (show Below w5.heap.size w5 w7 from below_post d7 (by first | exact Below.refl _ _ | exact (Below.refl _ _).drew)); have R7 := Aside0.mk (show Kd.R (Kd.int .u32) 83 w7 w5.heap.size (fun _ => True) v7 us from r7); have T7 := Aside0.mk (T5.out.step B7.out); have S7 := Aside0.mk (show w7.cell? ⟨w.heap.size, 0, none⟩ = some (.bool na) from T7.out.a.c0); clear d7 r7)
      | (go_at_call 65; refine (cuspref02_norm.calls k5 na (fun _ => True) _ us E r1 r2 r3 w5 _ (below_post (by first | exact Below.refl _ _ | exact (Below.refl _ _).drew) B7.out) (by first | exact R7.out | exact Kd.R_drew R7.out) N1.out).mono ?_; rintro e1 w8 ⟨v8, rfl, r8, d8, _⟩; obtain ⟨Au, cu, hu⟩ := Kd.R_slice r8; subst hu; have T8 := Aside0.mk (T5.out.step d8); have R8 := Aside0.mk (Kd.R_mono r8 (fun _ _ => (trivial : True))); have ltr := Aside0.mk (blk_lt T5.out.r); have q0 := T8.out.r.c0; have q1 := T8.out.r.c1; have q2 := T8.out.r.c2; have q3 := T8.out.r.fr 0; have q4 := T8.out.r.fr 1; have q5 := T8.out.r.fr 2; have S8 := Aside0.mk (show w8.cell? ⟨w.heap.size, 0, none⟩ = some (.bool na) from T8.out.a.c0); clear d8 r8)))
  all_goals
    go_wp2
    refine bodyPost_ret (v := .agg #[.bool r1, .slice Au r2.length cu, .int .i64 r3]) (by simp [results, Tryz.results25, go_sem, q0, q1, q2, q3, q4, q5]) rfl ?_
    have lt := ltr.out
    exact ⟨_, rfl, Kd.R_lower (r_set (r_set (r_set R8.out _ (by first | (simp; done) | simpa using lt) _) _ (by first | (simp; done) | simpa using lt) _) _ (by first | (simp; done) | simpa using lt) _) T5.out.keep.size, ((T8.out.keep.setCell (by simp; omega) _).setCell (by simp; omega) _).setCell (by simp; omega) _⟩
set_option maxRecDepth 100000 in
set_option maxHeartbeats 1000000 in
theorem plus_lt (k1 k2 k3 k4 k5 : Nat) (ua ub us : List Int) (E : Int) (hE : (if eb < ea then eb else ea) = E) (hla : la.length ≠ 0) (hlb : lb.length ≠ 0) (he0 : -10000000 ≤ ea) (he1 : ea ≤ 10000000) (he2 : -10000000 ≤ eb) (he3 : eb ≤ 10000000) (hu1 : cuspref02_up.f k1 la (ea - E) = some ua) (hu2 : cuspref02_up.f k2 lb (eb - E) = some ub) (r1 : Bool) (r2 : List Int) (r3 o : Int) (hab : na ≠ nb) (hord : cuspref02_order.f k3 ua ub = some o) (ho : o < 0) (hs : cuspref02_less.f k4 ub ua = some us) (hn : cuspref02_norm.f k5 nb us E = some (r1, r2, r3)) :
    Calls Tryz.prog 25 #[.agg #[.bool na, .slice A la.length c, .int .i64 ea], .agg #[.bool nb, .slice B lb.length d, .int .i64 eb]] w (RetR (r1, r2, r3) w) := by
  have T0 := Aside0.mk (plW_new (na := na) (ea := ea) (c := c) (nb := nb) (eb := eb) (d := d) ha hb)
  have HC := Aside0.mk hc
  have HD := Aside0.mk hd
  have z0 : (((la.length : Nat) : Int) == 0) = false := by rw [beq_eq_false_iff_ne]; omega
  have z1 : (((lb.length : Nat) : Int) == 0) = false := by rw [beq_eq_false_iff_ne]; omega
  have hEa : E ≤ ea ∧ E ≤ eb ∧ -10000000 ≤ E := by rw [← hE]; split <;> omega
  obtain ⟨hEa1, hEa2, hEa3⟩ := hEa
  have U1 := Aside0.mk hu1
  have U2 := Aside0.mk hu2
  have S1 := Aside0.mk hs
  have N1 := Aside0.mk hn
  have tok1 : True := trivial
  have OV := Aside0.mk hord
  have hab1 : (na == nb) = false := by cases na <;> cases nb <;> simp_all
  have ho1 : decide (o < 0) = true := decide_eq_true ho
  clear ha hc hb hd hla hlb hu1 hu2 hs hn hab hord ho
  go_enter Tryz.func25, Tryz.ntmps25
  go_upto_region 11 with (first
    | (go_at_call 64; have _t := tok1; refine (cuspref02_up.calls k1 A c la (ea - E) ua _ T0.out.ra HC.out U1.out).mono ?_; rintro e1 w4 ⟨v4, rfl, r4, d4⟩; obtain ⟨A4, c4, hv4⟩ := Kd.R_slice r4; subst hv4; have R4 := Aside0.mk (Kd.R_reads' r4); have T4 := Aside0.mk (T0.out.step d4); have a40 := T4.out.a.c0; have a41 := T4.out.a.c1; have a42 := T4.out.a.c2; have b40 := T4.out.b.c0; have b41 := T4.out.b.c1; have b42 := T4.out.b.c2; have r40 := T4.out.r.c0; have r41 := T4.out.r.c1; have r42 := T4.out.r.c2; clear d4 r4 _t tok1)
    | (go_at_call 64; refine (cuspref02_up.calls k2 B d lb (eb - E) ub _ T4.out.rb HD.out U2.out).mono ?_; rintro e1 w5 ⟨v5, rfl, r5, d5⟩; obtain ⟨A5, c5, hv5⟩ := Kd.R_slice r5; subst hv5; have R5 := Aside0.mk (Kd.R_reads' r5); have C4 := Aside0.mk (Kd.C_below R4.out.2.2 d5); have T5 := Aside0.mk (T4.out.step d5); have a50 := T5.out.a.c0; have a51 := T5.out.a.c1; have a52 := T5.out.a.c2; have b50 := T5.out.b.c0; have b51 := T5.out.b.c1; have b52 := T5.out.b.c2; have r50 := T5.out.r.c0; have r51 := T5.out.r.c1; have r52 := T5.out.r.c2; clear d5 r5)
    | (go_at_call 67; refine (cuspref02_order.calls k3 A4 c4 ua A5 c5 ub o _ C4.out R4.out.2.1 R5.out.2.2 R5.out.2.1 OV.out).mono ?_; rintro e1 w6 ⟨rfl, d6⟩; have C4' := Aside0.mk (Kd.C_below C4.out d6.below); have C5' := Aside0.mk (Kd.C_below R5.out.2.2 d6.below); have T6 := Aside0.mk (T5.out.step d6.below); have a60 := T6.out.a.c0; have a61 := T6.out.a.c1; have a62 := T6.out.a.c2; have b60 := T6.out.b.c0; have b61 := T6.out.b.c1; have b62 := T6.out.b.c2; have r60 := T6.out.r.c0; have r61 := T6.out.r.c1; have r62 := T6.out.r.c2; clear d6))
  go_region_held3 (fun w' => w'.cell? ⟨w.heap.size + 1, 0, none⟩ = some (.bool nb))
    (first | exact b60 | exact S8.out | exact S7.out | (have _s := S8; exact (set3_cell _ _ _ _ _ _ _ (by omega)).trans S8.out) | go_keep)
    ((first
      | (go_at_call 68; refine (cuspref02_less.calls k4 A5 c5 ub A4 c4 ua us _ (Kd.C_below C5'.out (by first | exact Below.refl _ _ | exact (Below.refl _ _).drew)) R5.out.2.1 (Kd.C_below C4'.out (by first | exact Below.refl _ _ | exact (Below.refl _ _).drew)) R4.out.2.1 S1.out).mono ?_; rintro e1 w7 ⟨v7, rfl, r7, d7⟩; have B7 := Aside0.mk (show Below w6.heap.size w6 w7 from below_post d7 (by first | exact Below.refl _ _ | exact (Below.refl _ _).drew)); have R7 := Aside0.mk (show Kd.R (Kd.int .u32) 83 w7 w6.heap.size (fun _ => True) v7 us from r7); have T7 := Aside0.mk (T6.out.step B7.out); have S7 := Aside0.mk (show w7.cell? ⟨w.heap.size + 1, 0, none⟩ = some (.bool nb) from T7.out.b.c0); clear d7 r7)
      | (go_at_call 65; refine (cuspref02_norm.calls k5 nb (fun _ => True) _ us E r1 r2 r3 w6 _ (below_post (by first | exact Below.refl _ _ | exact (Below.refl _ _).drew) B7.out) (by first | exact R7.out | exact Kd.R_drew R7.out) N1.out).mono ?_; rintro e1 w8 ⟨v8, rfl, r8, d8, _⟩; obtain ⟨Au, cu, hu⟩ := Kd.R_slice r8; subst hu; have T8 := Aside0.mk (T6.out.step d8); have R8 := Aside0.mk (Kd.R_mono r8 (fun _ _ => (trivial : True))); have ltr := Aside0.mk (blk_lt T6.out.r); have q0 := T8.out.r.c0; have q1 := T8.out.r.c1; have q2 := T8.out.r.c2; have q3 := T8.out.r.fr 0; have q4 := T8.out.r.fr 1; have q5 := T8.out.r.fr 2; have S8 := Aside0.mk (show w8.cell? ⟨w.heap.size + 1, 0, none⟩ = some (.bool nb) from T8.out.b.c0); clear d8 r8)))
  all_goals
    go_wp2
    refine bodyPost_ret (v := .agg #[.bool r1, .slice Au r2.length cu, .int .i64 r3]) (by simp [results, Tryz.results25, go_sem, q0, q1, q2, q3, q4, q5]) rfl ?_
    have lt := ltr.out
    exact ⟨_, rfl, Kd.R_lower (r_set (r_set (r_set R8.out _ (by first | (simp; done) | simpa using lt) _) _ (by first | (simp; done) | simpa using lt) _) _ (by first | (simp; done) | simpa using lt) _) T6.out.keep.size, ((T8.out.keep.setCell (by simp; omega) _).setCell (by simp; omega) _).setCell (by simp; omega) _⟩
set_option maxRecDepth 100000 in
set_option maxHeartbeats 1000000 in
theorem plus_ge (k1 k2 k3 k4 k5 : Nat) (ua ub us : List Int) (E : Int) (hE : (if eb < ea then eb else ea) = E) (hla : la.length ≠ 0) (hlb : lb.length ≠ 0) (he0 : -10000000 ≤ ea) (he1 : ea ≤ 10000000) (he2 : -10000000 ≤ eb) (he3 : eb ≤ 10000000) (hu1 : cuspref02_up.f k1 la (ea - E) = some ua) (hu2 : cuspref02_up.f k2 lb (eb - E) = some ub) (r1 : Bool) (r2 : List Int) (r3 o : Int) (hab : na ≠ nb) (hord : cuspref02_order.f k3 ua ub = some o) (ho : 0 ≤ o) (hs : cuspref02_less.f k4 ua ub = some us) (hn : cuspref02_norm.f k5 na us E = some (r1, r2, r3)) :
    Calls Tryz.prog 25 #[.agg #[.bool na, .slice A la.length c, .int .i64 ea], .agg #[.bool nb, .slice B lb.length d, .int .i64 eb]] w (RetR (r1, r2, r3) w) := by
  have T0 := Aside0.mk (plW_new (na := na) (ea := ea) (c := c) (nb := nb) (eb := eb) (d := d) ha hb)
  have HC := Aside0.mk hc
  have HD := Aside0.mk hd
  have z0 : (((la.length : Nat) : Int) == 0) = false := by rw [beq_eq_false_iff_ne]; omega
  have z1 : (((lb.length : Nat) : Int) == 0) = false := by rw [beq_eq_false_iff_ne]; omega
  have hEa : E ≤ ea ∧ E ≤ eb ∧ -10000000 ≤ E := by rw [← hE]; split <;> omega
  obtain ⟨hEa1, hEa2, hEa3⟩ := hEa
  have U1 := Aside0.mk hu1
  have U2 := Aside0.mk hu2
  have S1 := Aside0.mk hs
  have N1 := Aside0.mk hn
  have tok1 : True := trivial
  have OV := Aside0.mk hord
  have hab1 : (na == nb) = false := by cases na <;> cases nb <;> simp_all
  have ho1 : decide (o < 0) = false := decide_eq_false (by omega)
  clear ha hc hb hd hla hlb hu1 hu2 hs hn hab hord ho
  go_enter Tryz.func25, Tryz.ntmps25
  go_upto_region 12 with (first
    | (go_at_call 64; have _t := tok1; refine (cuspref02_up.calls k1 A c la (ea - E) ua _ T0.out.ra HC.out U1.out).mono ?_; rintro e1 w4 ⟨v4, rfl, r4, d4⟩; obtain ⟨A4, c4, hv4⟩ := Kd.R_slice r4; subst hv4; have R4 := Aside0.mk (Kd.R_reads' r4); have T4 := Aside0.mk (T0.out.step d4); have a40 := T4.out.a.c0; have a41 := T4.out.a.c1; have a42 := T4.out.a.c2; have b40 := T4.out.b.c0; have b41 := T4.out.b.c1; have b42 := T4.out.b.c2; have r40 := T4.out.r.c0; have r41 := T4.out.r.c1; have r42 := T4.out.r.c2; clear d4 r4 _t tok1)
    | (go_at_call 64; refine (cuspref02_up.calls k2 B d lb (eb - E) ub _ T4.out.rb HD.out U2.out).mono ?_; rintro e1 w5 ⟨v5, rfl, r5, d5⟩; obtain ⟨A5, c5, hv5⟩ := Kd.R_slice r5; subst hv5; have R5 := Aside0.mk (Kd.R_reads' r5); have C4 := Aside0.mk (Kd.C_below R4.out.2.2 d5); have T5 := Aside0.mk (T4.out.step d5); have a50 := T5.out.a.c0; have a51 := T5.out.a.c1; have a52 := T5.out.a.c2; have b50 := T5.out.b.c0; have b51 := T5.out.b.c1; have b52 := T5.out.b.c2; have r50 := T5.out.r.c0; have r51 := T5.out.r.c1; have r52 := T5.out.r.c2; clear d5 r5)
    | (go_at_call 67; refine (cuspref02_order.calls k3 A4 c4 ua A5 c5 ub o _ C4.out R4.out.2.1 R5.out.2.2 R5.out.2.1 OV.out).mono ?_; rintro e1 w6 ⟨rfl, d6⟩; have C4' := Aside0.mk (Kd.C_below C4.out d6.below); have C5' := Aside0.mk (Kd.C_below R5.out.2.2 d6.below); have T6 := Aside0.mk (T5.out.step d6.below); have a60 := T6.out.a.c0; have a61 := T6.out.a.c1; have a62 := T6.out.a.c2; have b60 := T6.out.b.c0; have b61 := T6.out.b.c1; have b62 := T6.out.b.c2; have r60 := T6.out.r.c0; have r61 := T6.out.r.c1; have r62 := T6.out.r.c2; clear d6))
  go_region_held3 (fun w' => w'.cell? ⟨w.heap.size, 0, none⟩ = some (.bool na))
    (first | exact a60 | exact S8.out | exact S7.out | (have _s := S8; exact (set3_cell _ _ _ _ _ _ _ (by omega)).trans S8.out) | go_keep)
    ((first
      | (go_at_call 68; refine (cuspref02_less.calls k4 A4 c4 ua A5 c5 ub us _ (Kd.C_below C4'.out (by first | exact Below.refl _ _ | exact (Below.refl _ _).drew)) R4.out.2.1 (Kd.C_below C5'.out (by first | exact Below.refl _ _ | exact (Below.refl _ _).drew)) R5.out.2.1 S1.out).mono ?_; rintro e1 w7 ⟨v7, rfl, r7, d7⟩; have B7 := Aside0.mk (show Below w6.heap.size w6 w7 from below_post d7 (by first | exact Below.refl _ _ | exact (Below.refl _ _).drew)); have R7 := Aside0.mk (show Kd.R (Kd.int .u32) 83 w7 w6.heap.size (fun _ => True) v7 us from r7); have T7 := Aside0.mk (T6.out.step B7.out); have S7 := Aside0.mk (show w7.cell? ⟨w.heap.size, 0, none⟩ = some (.bool na) from T7.out.a.c0); clear d7 r7)
      | (go_at_call 65; refine (cuspref02_norm.calls k5 na (fun _ => True) _ us E r1 r2 r3 w6 _ (below_post (by first | exact Below.refl _ _ | exact (Below.refl _ _).drew) B7.out) (by first | exact R7.out | exact Kd.R_drew R7.out) N1.out).mono ?_; rintro e1 w8 ⟨v8, rfl, r8, d8, _⟩; obtain ⟨Au, cu, hu⟩ := Kd.R_slice r8; subst hu; have T8 := Aside0.mk (T6.out.step d8); have R8 := Aside0.mk (Kd.R_mono r8 (fun _ _ => (trivial : True))); have ltr := Aside0.mk (blk_lt T6.out.r); have q0 := T8.out.r.c0; have q1 := T8.out.r.c1; have q2 := T8.out.r.c2; have q3 := T8.out.r.fr 0; have q4 := T8.out.r.fr 1; have q5 := T8.out.r.fr 2; have S8 := Aside0.mk (show w8.cell? ⟨w.heap.size, 0, none⟩ = some (.bool na) from T8.out.a.c0); clear d8 r8)))
  all_goals
    go_wp2
    refine bodyPost_ret (v := .agg #[.bool r1, .slice Au r2.length cu, .int .i64 r3]) (by simp [results, Tryz.results25, go_sem, q0, q1, q2, q3, q4, q5]) rfl ?_
    have lt := ltr.out
    exact ⟨_, rfl, Kd.R_lower (r_set (r_set (r_set R8.out _ (by first | (simp; done) | simpa using lt) _) _ (by first | (simp; done) | simpa using lt) _) _ (by first | (simp; done) | simpa using lt) _) T6.out.keep.size, ((T8.out.keep.setCell (by simp; omega) _).setCell (by simp; omega) _).setCell (by simp; omega) _⟩
end
end Go.Proofs.YthmeocigliephaaGreatDoor.Big
end
section
namespace Go.Proofs.YthmeocigliephaaGreatDoor.Big
open Go.RowKit Go.Proofs.YthmeocigliephaaGreatDoorW.PrintWords Go.Proofs.YthmeocigliephaaGreatDoorW.PrintLast Go.Proofs.YthmeocigliephaaGreatDoorW.PrintMore
open Go.Proofs.YthmeocigliephaaGreatDoor.PSu Go.Proofs.YthmeocigliephaaGreatDoor.Plain
def plusN (na : Bool) (la : List Int) (ea : Int) (nb : Bool) (lb : List Int) (eb : Int) : Bool × List Int × Int :=
  if la.length = 0 then (nb, lb, eb) else if lb.length = 0 then (na, la, ea)
  else canN (zv na la * 2 ^ (ea - mn ea eb).toNat + zv nb lb * 2 ^ (eb - mn ea eb).toNat) (mn ea eb)
theorem zv_pow (na : Bool) (l : List Int) (k : Nat) : zv na l * 2 ^ k = if na = true then -((val l * 2 ^ k : Nat) : Int) else ((val l * 2 ^ k : Nat) : Int) := by
  unfold zv
  cases na
  · rw [if_neg (by simp), if_neg (by simp), Int.natCast_mul, Int.natCast_pow]; rfl
  · rw [if_pos rfl, if_pos rfl, Int.neg_mul, Int.natCast_mul, Int.natCast_pow]; rfl
theorem up_length {p k j : Nat} (h : (dig p).length ≤ k) : (dig (p * 2 ^ j)).length ≤ k + j / 32 + 1 := by
  refine dig_length_le ?_
  have h1 := lt_dig_length p
  calc p * 2 ^ j < 2 ^ (32 * (dig p).length) * 2 ^ j := Nat.mul_lt_mul_of_pos_right h1 (Nat.pow_pos (by omega))
    _ = 2 ^ (32 * (dig p).length + j) := by rw [← Nat.pow_add]
    _ ≤ _ := Nat.pow_le_pow_right (by omega) (by omega)
theorem add_length {p q k : Nat} (h : (dig p).length ≤ k) (h2 : (dig q).length ≤ k) : (dig (p + q)).length ≤ k + 1 := by
  refine dig_length_le ?_
  have h3 : p < 2 ^ (32 * k) := Nat.lt_of_lt_of_le (lt_dig_length p) (Nat.pow_le_pow_right (by omega) (by omega))
  have h4 : q < 2 ^ (32 * k) := Nat.lt_of_lt_of_le (lt_dig_length q) (Nat.pow_le_pow_right (by omega) (by omega))
  rw [pow32_succ]; omega
theorem plus_any (na : Bool) (la : List Int) (ea : Int) (A : Option Addr) (c : Nat) (nb : Bool) (lb : List Int) (eb : Int) (B : Option Addr) (d : Nat) (w : World)
    (ha : Kd.C (Kd.int .u32) w A la.length la) (hc : la.length ≤ c) (hb : Kd.C (Kd.int .u32) w B lb.length lb) (hd : lb.length ≤ d) (oa : IsO la ea) (ob : IsO lb eb) :
    Calls Tryz.prog 25 #[.agg #[.bool na, .slice A la.length c, .int .i64 ea], .agg #[.bool nb, .slice B lb.length d, .int .i64 eb]] w (RetR (plusN na la ea nb lb eb) w) := by
  obtain ⟨a1, a2, a3, a4⟩ := oa
  obtain ⟨b1, b2, b3, b4⟩ := ob
  unfold plusN
  by_cases hla : la.length = 0
  · rw [if_pos hla]
    exact plus_a0 na la ea A c nb lb eb B d w ha hc hb hd hla (by omega)
  · rw [if_neg hla]
    by_cases hlb : lb.length = 0
    · rw [if_pos hlb]
      exact plus_b0 na la ea A c nb lb eb B d w ha hc hb hd hla hlb (by omega)
    · rw [if_neg hlb]
      obtain ⟨a1, _⟩ := a1.resolve_left hla
      obtain ⟨b1, _⟩ := b1.resolve_left hlb
      obtain ⟨E, hE⟩ : ∃ E, mn ea eb = E := ⟨_, rfl⟩
      rw [hE]
      have hE1 : E ≤ ea ∧ E ≤ eb ∧ -1000000 ≤ E ∧ E ≤ 1000000 := by rw [← hE]; unfold mn; split <;> omega
      obtain ⟨i, hi⟩ : ∃ i, (ea - E).toNat = i := ⟨_, rfl⟩
      obtain ⟨j, hj⟩ : ∃ j, (eb - E).toNat = j := ⟨_, rfl⟩
      rw [hi, hj]
      obtain ⟨p, hp⟩ : ∃ p, val la = p := ⟨_, rfl⟩
      obtain ⟨q, hq⟩ : ∃ q, val lb = q := ⟨_, rfl⟩
      rw [hp] at a1
      rw [hq] at b1
      have lp : (dig p).length ≤ 100000 := by rw [a1]; exact a2
      have lq : (dig q).length ≤ 100000 := by rw [b1]; exact b2
      obtain ⟨k1, u1⟩ := (rup_law p i (by omega)).rounds
      obtain ⟨k2, u2⟩ := (rup_law q j (by omega)).rounds
      rw [a1, show ((i : Nat) : Int) = ea - E by omega] at u1
      rw [b1, show ((j : Nat) : Int) = eb - E by omega] at u2
      have lP := up_length (j := i) lp
      have lQ := up_length (j := j) lq
      rw [zv_pow, zv_pow, hp, hq]
      obtain ⟨P, hP⟩ : ∃ P, p * 2 ^ i = P := ⟨_, rfl⟩
      obtain ⟨Q, hQ⟩ : ∃ Q, q * 2 ^ j = Q := ⟨_, rfl⟩
      rw [hP] at u1 lP ⊢
      rw [hQ] at u2 lQ ⊢
      have lP' : (dig P).length ≤ 200000 := by omega
      have lQ' : (dig Q).length ≤ 200000 := by omega
      have lS := add_length lP' lQ'
      by_cases hab : na = nb
      · obtain ⟨k4, s4⟩ := (rsum_law P Q (by omega) (by omega)).rounds
        obtain ⟨k5, s5⟩ := (rnorm_law na (dig (P + Q)) E (dg_dig _) (by omega) (by omega) (by omega)).rounds
        rw [val_dig] at s5
        have hz : (if na = true then -((P + Q : Nat) : Int) else ((P + Q : Nat) : Int)) = (if na = true then -(P : Int) else (P : Int)) + (if nb = true then -(Q : Int) else (Q : Int)) := by
          rw [← hab]; cases na
          · rw [if_neg (by simp), if_neg (by simp), if_neg (by simp)]; omega
          · rw [if_pos rfl, if_pos rfl, if_pos rfl]; omega
        rw [hz] at s5
        exact plus_same na la ea A c nb lb eb B d w ha hc hb hd k1 k2 0 k4 k5 _ _ _ E (by rw [← hE]; rfl) hla hlb (by omega) (by omega) (by omega) (by omega) u1 u2 _ _ _ hab s4 s5
      · obtain ⟨k3, s3⟩ := (rorder_law P Q (by omega)).rounds
        by_cases hlt : P < Q
        · rw [cmpN_lt hlt] at s3
          obtain ⟨k4, s4⟩ := (rless_law Q P (by omega) (by omega)).rounds
          have lD : (dig (Q - P)).length ≤ (dig Q).length := dig_length_mono (by omega)
          obtain ⟨k5, s5⟩ := (rnorm_law nb (dig (Q - P)) E (dg_dig _) (by omega) (by omega) (by omega)).rounds
          rw [val_dig] at s5
          have hz : (if nb = true then -((Q - P : Nat) : Int) else ((Q - P : Nat) : Int)) = (if na = true then -(P : Int) else (P : Int)) + (if nb = true then -(Q : Int) else (Q : Int)) := by
            cases na <;> cases nb
            · exact absurd rfl hab
            · rw [if_pos rfl, if_neg (by simp), if_pos rfl]; omega
            · rw [if_neg (by simp), if_pos rfl, if_neg (by simp)]; omega
            · exact absurd rfl hab
          rw [hz] at s5
          exact plus_lt na la ea A c nb lb eb B d w ha hc hb hd k1 k2 k3 k4 k5 _ _ _ E (by rw [← hE]; rfl) hla hlb (by omega) (by omega) (by omega) (by omega) u1 u2 _ _ _ _ hab s3 (by omega) s4 s5
        · have s3' : ∃ o, 0 ≤ o ∧ cuspref02_order.f k3 (dig P) (dig Q) = some o := ⟨_, by unfold cmpN; rw [if_neg hlt]; split <;> omega, s3⟩
          obtain ⟨o, ho, s3⟩ := s3'
          obtain ⟨k4, s4⟩ := (rless_law P Q (by omega) (by omega)).rounds
          have lD : (dig (P - Q)).length ≤ (dig P).length := dig_length_mono (by omega)
          obtain ⟨k5, s5⟩ := (rnorm_law na (dig (P - Q)) E (dg_dig _) (by omega) (by omega) (by omega)).rounds
          rw [val_dig] at s5
          have hz : (if na = true then -((P - Q : Nat) : Int) else ((P - Q : Nat) : Int)) = (if na = true then -(P : Int) else (P : Int)) + (if nb = true then -(Q : Int) else (Q : Int)) := by
            cases na <;> cases nb
            · exact absurd rfl hab
            · rw [if_neg (by simp), if_neg (by simp), if_pos rfl]; omega
            · rw [if_pos rfl, if_pos rfl, if_neg (by simp)]; omega
            · exact absurd rfl hab
          rw [hz] at s5
          exact plus_ge na la ea A c nb lb eb B d w ha hc hb hd k1 k2 k3 k4 k5 _ _ _ E (by rw [← hE]; rfl) hla hlb (by omega) (by omega) (by omega) (by omega) u1 u2 _ _ _ _ hab s3 ho s4 s5
theorem plus_can (x y e : Int) : plusN (canN x e).1 (canN x e).2.1 (canN x e).2.2 (canN y e).1 (canN y e).2.1 (canN y e).2.2 = canN (x + y) e := by
  unfold plusN
  by_cases hx0 : x = 0
  · subst hx0; rw [Int.zero_add, canN_zero]; rfl
  · have hxl : ¬ (canN x e).2.1.length = 0 := fun h => hx0 ((can_nil e).1 (List.length_eq_zero_iff.1 h))
    rw [if_neg hxl]
    by_cases hy0 : y = 0
    · subst hy0; rw [Int.add_zero, canN_zero]; rfl
    · have hyl : ¬ (canN y e).2.1.length = 0 := fun h => hy0 ((can_nil e).1 (List.length_eq_zero_iff.1 h))
      rw [if_neg hyl]
      obtain ⟨h1, h2, h3⟩ := zv_can hx0 e
      obtain ⟨k1, k2, k3⟩ := zv_can hy0 e
      have hm : ∃ j : Nat, mn (canN x e).2.2 (canN y e).2.2 = e + j ∧ ((canN x e).2.2 - mn (canN x e).2.2 (canN y e).2.2).toNat + j = tz x.natAbs ∧ ((canN y e).2.2 - mn (canN x e).2.2 (canN y e).2.2).toNat + j = tz y.natAbs := by
        rw [h3, k3]
        unfold mn
        split
        · exact ⟨tz y.natAbs, by omega, by omega, by omega⟩
        · exact ⟨tz x.natAbs, by omega, by omega, by omega⟩
      obtain ⟨j, j1, j2, j3⟩ := hm
      have hs : (zv (canN x e).1 (canN x e).2.1 * 2 ^ ((canN x e).2.2 - mn (canN x e).2.2 (canN y e).2.2).toNat + zv (canN y e).1 (canN y e).2.1 * 2 ^ ((canN y e).2.2 - mn (canN x e).2.2 (canN y e).2.2).toNat) * 2 ^ j = x + y := by
        rw [Int.add_mul, Int.mul_assoc, Int.mul_assoc, ← Int.pow_add, ← Int.pow_add, j2, j3, h1, k1]
      rw [j1] at hs ⊢
      rw [← canN_shift, hs]
theorem isO_can {z e : Int} (h1 : bl z.natAbs ≤ 1000000) (h2 : -1000000 ≤ e) (h3 : e + (bl z.natAbs : Int) ≤ 1000000) : IsO (canN z e).2.1 (canN z e).2.2 := by
  by_cases h : z = 0
  · subst h; rw [canN_zero]; exact ⟨.inl rfl, by simp, by simp, by simp⟩
  · have hn : z.natAbs ≠ 0 := by omega
    have h4 := bl_mul_pow (odd_ne hn) (tz z.natAbs)
    rw [odd_mul hn] at h4
    have h5 := odd_odd hn
    rw [canN_ne h]
    refine ⟨.inr ⟨by rw [val_dig], by rw [val_dig]; exact h5⟩, ?_, by show -1000000 ≤ e + (tz z.natAbs : Int); omega, by show e + (tz z.natAbs : Int) ≤ 1000000; omega⟩
    have h6 : bl (odd z.natAbs) ≤ 32 * 31250 := by omega
    have h7 := dig_length_le (bl_le.1 h6)
    exact Nat.le_trans h7 (by omega)
end Go.Proofs.YthmeocigliephaaGreatDoor.Big
namespace Go.Proofs.YthmeocigliephaaGreatDoor
open Go.RowKit Go.Proofs.YthmeocigliephaaGreatDoorW.PrintWords Go.Proofs.YthmeocigliephaaGreatDoorW.PrintLast Go.Proofs.YthmeocigliephaaGreatDoorW.PrintMore
open Go.Proofs.YthmeocigliephaaGreatDoor.PSu Go.Proofs.YthmeocigliephaaGreatDoor.Plain Go.Proofs.YthmeocigliephaaGreatDoor.Big
def cuspref02_Plus.f (a0_0 : Bool) (l0_1 : List Int) (a0_2 : Int) (a1_0 : Bool) (l1_1 : List Int) (a1_2 : Int) : Option (Bool × List Int × Int) :=
  if IsO l0_1 a0_2 ∧ IsO l1_1 a1_2 then some (plusN a0_0 l0_1 a0_2 a1_0 l1_1 a1_2) else none
theorem cuspref02_Plus.calls (a0_0 : Bool) (A0_1 : Option Addr) (c0_1 : Nat) (l0_1 : List Int) (a0_2 : Int) (a1_0 : Bool) (A1_1 : Option Addr) (c1_1 : Nat) (l1_1 : List Int) (a1_2 : Int) (r1 : Bool) (r2 : List Int) (r3 : Int) (w : World)
    (hr0_1 : Kd.C (Kd.int .u32) w A0_1 l0_1.length l0_1) (hc0_1 : l0_1.length ≤ c0_1) (hr1_1 : Kd.C (Kd.int .u32) w A1_1 l1_1.length l1_1) (hc1_1 : l1_1.length ≤ c1_1)
    (h : cuspref02_Plus.f a0_0 l0_1 a0_2 a1_0 l1_1 a1_2 = some (r1, r2, r3)) :
    Calls Tryz.prog 25 #[.agg #[.bool a0_0, .slice A0_1 l0_1.length c0_1, .int .i64 a0_2], .agg #[.bool a1_0, .slice A1_1 l1_1.length c1_1, .int .i64 a1_2]] w fun e w' => ∃ v1_ : Value, e = .returned (.agg #[.bool r1, v1_, .int .i64 r3]) ∧ Kd.R (Kd.int .u32) 83 w' w.heap.size (fun _ => True) v1_ r2 ∧ Below w.heap.size w w' := by
  unfold cuspref02_Plus.f at h
  split at h
  · rename_i hf
    have := plus_any a0_0 l0_1 a0_2 A0_1 c0_1 a1_0 l1_1 a1_2 A1_1 c1_1 w hr0_1 hc0_1 hr1_1 hc1_1 hf.1 hf.2
    rw [Option.some.inj h] at this
    exact this
  · cases h
end Go.Proofs.YthmeocigliephaaGreatDoor
end
section
namespace Go.Proofs.YthmeocigliephaaGreatDoor.Big
open Go.RowKit Go.Proofs.YthmeocigliephaaGreatDoorW.PrintWords Go.Proofs.YthmeocigliephaaGreatDoorW.PrintLast Go.Proofs.YthmeocigliephaaGreatDoorW.PrintMore
open Go.Proofs.YthmeocigliephaaGreatDoor.PSu Go.Proofs.YthmeocigliephaaGreatDoor.Plain
theorem incV_shift (n K j : Nat) (up near : Bool) : incV (n * 2 ^ j) (K + 1 + j) up near = incV n (K + 1) up near := by
  have hj : 0 < 2 ^ j := Nat.pow_pos (by omega)
  have e1 : n * 2 ^ j % 2 ^ (K + 1 + j) = n % 2 ^ (K + 1) * 2 ^ j := by rw [Nat.pow_add]; exact Nat.mul_mod_mul_right _ _ _
  have e2 : n * 2 ^ j / 2 ^ (K + 1 + j) = n / 2 ^ (K + 1) := by rw [Nat.pow_add]; exact Nat.mul_div_mul_right _ _ hj
  have e3 : 2 ^ (K + 1 + j - 1) = 2 ^ K * 2 ^ j := by rw [← Nat.pow_add]; congr 1; omega
  unfold incV
  rw [e1, e2, e3, Nat.add_sub_cancel]
  generalize n % 2 ^ (K + 1) = r
  generalize 2 ^ K = h
  have d1 : decide (r * 2 ^ j ≠ 0) = decide (r ≠ 0) := by
    rw [decide_eq_decide]
    exact not_congr ⟨fun h => (Nat.mul_eq_zero.1 h).resolve_right (by omega), fun h => by rw [h, Nat.zero_mul]⟩
  have d2 : decide (h * 2 ^ j < r * 2 ^ j) = decide (h < r) := by rw [decide_eq_decide]; exact Nat.mul_lt_mul_right hj
  have d3 : decide (r * 2 ^ j = h * 2 ^ j) = decide (r = h) := by
    rw [decide_eq_decide]; exact ⟨fun e => Nat.mul_right_cancel hj e, fun e => by rw [e]⟩
  rw [d1, d2, d3]
theorem magV_shift {n : Nat} (hn : n ≠ 0) (j : Nat) (e : Int) (up near : Bool) : magV (n * 2 ^ j) e up near = magV n (e + j) up near := by
  have hj : 0 < 2 ^ j := Nat.pow_pos (by omega)
  have hb := bl_mul_pow hn j
  have ht : ((bl (n * 2 ^ j) : Nat) : Int) + e = (bl n : Int) + (e + j) := by omega
  unfold magV
  rw [ht]
  obtain ⟨t, htt⟩ : ∃ t, (bl n : Int) + (e + j) = t := ⟨_, rfl⟩
  rw [htt]
  by_cases h1 : 1024 < t
  · rw [if_pos h1, if_pos h1]
  · rw [if_neg h1, if_neg h1]
    by_cases h2 : t < -1075
    · rw [if_pos h2, if_pos h2]
    · rw [if_neg h2, if_neg h2]
      obtain ⟨L, hL⟩ : ∃ L, lastV t = L := ⟨_, rfl⟩
      rw [hL]
      by_cases h3 : L ≤ e
      · rw [if_pos h3, if_pos (by omega), Nat.mul_assoc, ← Nat.pow_add]
        congr 3; omega
      · rw [if_neg h3]
        by_cases h4 : L ≤ e + j
        · rw [if_pos h4]
          obtain ⟨K, hK⟩ : ∃ K, (L - e).toNat = K + 1 := ⟨(L - e).toNat - 1, by omega⟩
          have e1 : n * 2 ^ j = n * 2 ^ (e + j - L).toNat * 2 ^ (K + 1) := by rw [Nat.mul_assoc, ← Nat.pow_add]; congr 2; omega
          have hp : 0 < 2 ^ (K + 1) := Nat.pow_pos (by omega)
          have hp2 : 0 < 2 ^ K := Nat.pow_pos (by omega)
          have hi : incV (n * 2 ^ j) (K + 1) up near = false := by
            unfold incV
            rw [e1, Nat.mul_mod_left, Nat.add_sub_cancel, decide_eq_false (show ¬ (0 ≠ 0) by simp), decide_eq_false (show ¬ 2 ^ K < 0 by omega), decide_eq_false (show ¬ 0 = 2 ^ K by omega)]
            simp
          rw [hK, hi, if_neg (by simp), e1, Nat.mul_div_cancel _ hp, Nat.add_zero]
        · rw [if_neg h4]
          obtain ⟨K, hK⟩ : ∃ K, (L - (e + j)).toNat = K + 1 := ⟨(L - (e + j)).toNat - 1, by omega⟩
          rw [show (L - e).toNat = K + 1 + j by omega, hK, incV_shift, Nat.pow_add, Nat.mul_div_mul_right _ _ hj]
def rndZ (z mode : Int) : Nat := if z = 0 then 0 else roundV (decide (z < 0)) z.natAbs (-1074) mode
theorem roundV_can {z : Int} (h : z ≠ 0) (mode : Int) : roundV (canN z (-1074)).1 (val (canN z (-1074)).2.1) (canN z (-1074)).2.2 mode = rndZ z mode := by
  have hn : z.natAbs ≠ 0 := by omega
  obtain ⟨_, h2, h3⟩ := zv_can h (-1074)
  have h4 := odd_mul hn
  unfold rndZ
  rw [if_neg h, h2, h3, roundV_eq, roundV_eq]
  have h5 := magV_shift (odd_ne hn) (tz z.natAbs) (-1074)
  rw [h4] at h5
  rw [h5, canN_ne h]
theorem can_length {z e : Int} : (canN z e).2.1.length = 0 ↔ z = 0 := by rw [List.length_eq_zero_iff, can_nil]
theorem round_can {z mode : Int} (h1 : bl z.natAbs ≤ 60000) (hm : 1 ≤ mode ∧ mode ≤ 3) : dyad_Round.f (canN z (-1074)).1 (canN z (-1074)).2.1 (canN z (-1074)).2.2 mode = some (rndZ z mode, 0) := by
  unfold dyad_Round.f roundN
  rw [if_pos (isN_can (by omega) (by omega) (by omega)), if_pos hm]
  by_cases h : z = 0
  · rw [if_pos (can_length.2 h)]; unfold rndZ; rw [if_pos h]
  · rw [if_neg (fun h' => h (can_length.1 h')), roundV_can h]
theorem to_can {z mode : Int} (h1 : bl z.natAbs ≤ 60000) (hm : 1 ≤ mode ∧ mode ≤ 3) : cuspref02_To.f (canN z (-1074)).1 (canN z (-1074)).2.1 (canN z (-1074)).2.2 mode = some (rndZ z mode) := by
  unfold cuspref02_To.f
  rw [if_pos ⟨isO_can (by omega) (by omega) (by omega), hm.1, hm.2⟩]
  by_cases h : z = 0
  · rw [if_pos (can_length.2 h)]; unfold rndZ; rw [if_pos h]
  · rw [if_neg (fun h' => h (can_length.1 h')), roundV_can h]
theorem rplus_can {x y : Int} (hx : bl x.natAbs ≤ 900000) (hy : bl y.natAbs ≤ 900000) : cuspref02_Plus.f (canN x (-1074)).1 (canN x (-1074)).2.1 (canN x (-1074)).2.2 (canN y (-1074)).1 (canN y (-1074)).2.1 (canN y (-1074)).2.2 = some (canN (x + y) (-1074)) := by
  unfold cuspref02_Plus.f
  rw [if_pos ⟨isO_can (by omega) (by omega) (by omega), isO_can (by omega) (by omega) (by omega)⟩, plus_can]
theorem nan_fin {a : Nat} (h : Fin64 a) : ((FloatKind.f64.format.order a a) != some .eq) = false := by rw [order_self h]; rfl
end Go.Proofs.YthmeocigliephaaGreatDoor.Big
end
section
namespace Go.Proofs.YthmeocigliephaaGreatDoor.Big
open Go.RowKit Go.Proofs.YthmeocigliephaaGreatDoorW.PrintWords Go.Proofs.YthmeocigliephaaGreatDoorW.PrintLast Go.Proofs.YthmeocigliephaaGreatDoorW.PrintMore
open Go.Proofs.YthmeocigliephaaGreatDoor.PSu Go.Proofs.YthmeocigliephaaGreatDoor.Plain Ieee
theorem compare_mul (x y : Int) (k : Nat) : compare (x * 2 ^ k) (y * 2 ^ k) = compare x y := by
  have hp : (0 : Int) < 2 ^ k := Int.pow_pos (by omega)
  rcases Int.lt_trichotomy x y with h | h | h
  · have h2 := Int.mul_lt_mul_of_pos_right h hp
    rw [Int.compare_eq_lt.2 h, Int.compare_eq_lt.2 h2]
  · subst h; rw [Int.compare_eq_eq.2 rfl, Int.compare_eq_eq.2 rfl]
  · have h2 := Int.mul_lt_mul_of_pos_right h hp
    rw [Int.compare_eq_gt.2 h, Int.compare_eq_gt.2 h2]
theorem signed_mul (s : Bool) (m u k : Nat) : signed s m u * 2 ^ k = (if s then -(m : Int) else m) * 2 ^ (u + k) := by
  unfold signed
  rw [Nat.shiftLeft_eq, Int.pow_add, ← Int.mul_assoc]
  cases s
  · simp [Int.natCast_mul, Int.natCast_pow]
  · simp [Int.natCast_mul, Int.natCast_pow, Int.neg_mul]
theorem order_fin {a b : Nat} (ha : Fin64 a) (hb : Fin64 b) : FloatKind.f64.format.order a b = some (compare (flz a) (flz b)) := by
  have ea := expoV_range ha
  have eb := expoV_range hb
  show double.order a b = _
  unfold Format.order
  rw [read_fin ha, read_fin hb]
  unfold Datum.order
  simp only
  congr 1
  rw [← compare_mul _ _ (min (expoV a) (expoV b) + 1074).toNat, signed_mul, signed_mul]
  unfold flz floV
  congr 3 <;> omega
theorem kind_cases {b : Nat} (h : b < 18446744073709551616) : Fin64 b ∨ b % 9223372036854775808 = 9218868437227405312 ∨ 9218868437227405312 < b % 9223372036854775808 := by
  unfold Fin64; omega
theorem read_inf {b : Nat} (h : b < 18446744073709551616) (h2 : b % 9223372036854775808 = 9218868437227405312) : double.read b = .infinity (sgn b) := by
  have : b = 9218868437227405312 ∨ b = 18442240474082181120 := by omega
  rcases this with rfl | rfl <;> rfl
theorem read_nan {b : Nat} (h2 : 9218868437227405312 < b % 9223372036854775808) : ∃ s f, double.read b = .nan s f := by
  unfold Format.read
  simp only [sw, bn, ir, lp]
  rw [if_neg (by omega), if_neg (by omega), if_neg (by omega)]
  exact ⟨_, _, rfl⟩
theorem nan_law {b : Nat} (h : b < 18446744073709551616) : nanB b = decide (9218868437227405312 < b % 9223372036854775808) := by
  unfold nanB
  rcases kind_cases h with hk | hk | hk
  · rw [nan_fin hk, decide_eq_false (by have := hk.2; omega)]
  · rw [decide_eq_false (by omega)]
    have : FloatKind.f64.format.order b b = some .eq := by
      show double.order b b = _
      unfold Format.order
      rw [read_inf h hk]
      cases sgn b <;> rfl
    rw [this]; rfl
  · rw [decide_eq_true hk]
    have : FloatKind.f64.format.order b b = none := by
      show double.order b b = _
      obtain ⟨s, f, hr⟩ := read_nan hk
      unfold Format.order
      rw [hr]; rfl
    rw [this]; rfl
theorem inf_law {b : Nat} (h : b < 18446744073709551616) : infB? b = (b % 9223372036854775808 == 9218868437227405312) := by
  have hu : infB? b = (FloatKind.f64.format.order (b % 9223372036854775808) 9218868437227405311 == some .gt) := by
    unfold infB? math_IsInf.f math_Abs.f
    rw [if_pos rfl, Option.bind_some, bits_abs b h]
    simp only [Int.toNat_natCast, Option.getD_some]
  rw [hu]
  rcases kind_cases h with hk | hk | hk
  · rw [order_max hk]
    have := hk.2
    symm; rw [beq_eq_false_iff_ne]; omega
  · rw [hk]; decide
  · have : FloatKind.f64.format.order (b % 9223372036854775808) 9218868437227405311 = none := by
      show double.order _ _ = _
      obtain ⟨s, f, hr⟩ := read_nan (b := b % 9223372036854775808) (by omega)
      unfold Format.order
      rw [hr]; rfl
    rw [this]
    have : (b % 9223372036854775808 == 9218868437227405312) = false := by rw [beq_eq_false_iff_ne]; omega
    rw [this]; rfl
theorem flz_zero {b : Nat} (h : Fin64 b) : flz b = 0 ↔ b % 9223372036854775808 = 0 := by
  have hp : (0 : Int) < 2 ^ (expoV b + 1074).toNat := Int.pow_pos (by omega)
  have h1 : flz b = 0 ↔ manti b = 0 := by
    have hf := @floV_natAbs b
    unfold flz
    constructor
    · intro h
      rcases Int.mul_eq_zero.1 h with h | h <;> omega
    · intro h
      have : floV b = 0 := by omega
      rw [this, Int.zero_mul]
  rw [h1]
  have hx := expo_le h
  have := h.1
  unfold manti frac expo at *
  split <;> omega
theorem signbit_law {b : Nat} (h : b < 18446744073709551616) : math_Signbit.f b = some (decide (9223372036854775808 ≤ b)) := by
  unfold math_Signbit.f
  congr 1
  rw [decide_eq_decide]
  unfold wrap64
  omega
theorem one_law {b : Nat} (h : Fin64 b) : oneB b = !(decide (b = 9223372036854775808)) := by
  have h0 : Fin64 0 := by decide
  have hz := flz_zero h
  have z0 : flz 0 = 0 := (flz_zero h0).2 rfl
  unfold oneB
  rw [order_fin h h0, signbit_law h.1, Option.getD_some, z0]
  by_cases hb : b % 9223372036854775808 = 0
  · rw [hz.2 hb, show compare (0 : Int) 0 = .eq from rfl]
    have : b = 0 ∨ b = 9223372036854775808 := by have := h.1; omega
    rcases this with rfl | rfl <;> rfl
  · have hn : flz b ≠ 0 := fun h => hb (hz.1 h)
    have hc : compare (flz b) 0 ≠ .eq := fun h => hn (Int.compare_eq_eq.1 h)
    have : (some (compare (flz b) 0) != some Ordering.eq) = true := by simpa using hc
    rw [this, Bool.true_or, decide_eq_false (by omega)]
    rfl
end Go.Proofs.YthmeocigliephaaGreatDoor.Big
end
section
namespace Go.Proofs.YthmeocigliephaaGreatDoor
open Go.RowKit Go.Proofs.YthmeocigliephaaGreatDoorW.PrintWords Go.Proofs.YthmeocigliephaaGreatDoor.Big
def sums_Exact.f (l0 : List Nat) (a1 : Int) : Option (Nat × Int) :=
  if l0.length < 4611686018427387904 ∧ ∀ b ∈ l0, b < 18446744073709551616 then some (exactW l0 a1 (canN (sumZ l0) (-1074))) else none
theorem sums_Exact.calls (A0 : Option Addr) (c0 : Nat) (l0 : List Nat) (a1 : Int) (r1 : Nat) (r2 : Int) (w : World) (hr0 : Kd.C Kd.float w A0 l0.length l0) (hc0 : l0.length ≤ c0) (h : sums_Exact.f l0 a1 = some (r1, r2)) (hL : Laid w := by exact Go.Proofs.YthmeocigliephaaGreatDoor.Big.Laid.step HL.out hbw) :
    Calls Tryz.prog 22 #[.slice A0 l0.length c0, .int .i64 a1] w fun e w' => e = .returned (.tuple #[.float .f64 r1, .int .i64 r2]) ∧ Below w.heap.size w w' := by
  unfold sums_Exact.f at h
  split at h
  · rename_i hf
    have := exact_list A0 c0 l0 a1 w hr0 hc0 hf.1 hf.2 hL
    rw [Option.some.inj h] at this
    exact this
  · cases h
end Go.Proofs.YthmeocigliephaaGreatDoor
end
section
namespace Go.Proofs.YthmeocigliephaaGreatDoor.Big
open Go.RowKit Go.Proofs.YthmeocigliephaaGreatDoorW.PrintWords Go.Proofs.YthmeocigliephaaGreatDoor.PSu Go.Proofs.YthmeocigliephaaGreatDoor.Plain
def sureL : List Nat := [4607182418800017408, 6103021453049119613, 4607182418800017408, 15326393489903895421]
theorem sure_row : sums_Row.f 10 sureL = some 0 := by decide +kernel
theorem sure_kept : sums_Kept.f 10 sureL = some 4611686018427387904 := by decide +kernel
theorem sure_halves : sums_Halves.f 10 sureL = some 0 := by decide +kernel
theorem sure_two : sums_Two.f 10 4846369599423283200 4607182418800017408 = some (4846369599423283200, 4607182418800017408) := by decide +kernel
theorem sure_exact : exactW sureL 2 (canN (sumZ sureL) (-1074)) = (4611686018427387904, 0) := by decide +kernel
theorem sure_arg : exactW sureL 0 (canN (sumZ sureL) (-1074)) = (0, 1) := by decide +kernel
theorem sure_fin : ∀ b ∈ sureL, b < 18446744073709551616 := by decide +kernel
end Go.Proofs.YthmeocigliephaaGreatDoor.Big
end
section
namespace Go.Proofs.YthmeocigliephaaGreatDoor.Big
open Go.RowKit Go.Proofs.YthmeocigliephaaGreatDoorW.PrintWords Go.Proofs.YthmeocigliephaaGreatDoorW.PrintLast Go.Proofs.YthmeocigliephaaGreatDoorW.PrintMore
open Go.Proofs.YthmeocigliephaaGreatDoor.PSu Go.Proofs.YthmeocigliephaaGreatDoor.Plain
theorem sure_lit (w : World) : Kd.C Kd.float (w.alloc (.cells #[.float .f64 4607182418800017408, .float .f64 6103021453049119613, .float .f64 4607182418800017408, .float .f64 15326393489903895421] 25 (0, 0))) (some ⟨w.heap.size, 0, none⟩) sureL.length sureL := by
  refine Kd.C_of_reads (d := (0 : Nat)) ⟨rfl, by decide, fun _ => ⟨_, rfl, fun j hj => ?_⟩⟩
  have hb := blk_new w (.cells #[.float .f64 4607182418800017408, .float .f64 6103021453049119613, .float .f64 4607182418800017408, .float .f64 15326393489903895421] 25 (0, 0))
  have h4 : j < 4 := hj
  have hc := blk_cell hb
  have : j = 0 ∨ j = 1 ∨ j = 2 ∨ j = 3 := by omega
  rcases this with rfl | rfl | rfl | rfl
  · exact hc 0
  · exact hc 1
  · exact hc 2
  · exact hc 3
set_option maxRecDepth 100000 in
set_option maxHeartbeats 1000000 in
theorem sure_any (w : World) (hL : Laid w) : Calls Tryz.prog 19 #[] w fun e w' => e = .returned (.bool true) ∧ Below w.heap.size w w' := by
  have HL := Aside0.mk hL
  have B1 := Aside0.mk ((Below.refl w.heap.size w).alloc (Nat.le_refl _) (.cells #[.float .f64 4607182418800017408, .float .f64 6103021453049119613, .float .f64 4607182418800017408, .float .f64 15326393489903895421] 25 (0, 0)))
  have C1 := Aside0.mk (sure_lit w)
  have E1 := Aside0.mk sure_exact
  have E2 := Aside0.mk sure_arg
  have V1 : (FloatKind.f64.format.order 0 0 == some .eq) = true := by decide +kernel
  have V2 : (FloatKind.f64.format.order 4611686018427387904 4611686018427387904 == some .eq) = true := by decide +kernel
  have V3 : (FloatKind.f64.format.order 4846369599423283200 4846369599423283200 == some .eq) = true := by decide +kernel
  have V4 : (FloatKind.f64.format.order 4607182418800017408 4607182418800017408 == some .eq) = true := by decide +kernel
  have tok1 : True := trivial
  clear hL
  go_enter Tryz.func19, Tryz.ntmps19
  go_wp2_with (first
    | (go_at_call 22; have _t := tok1; refine (exact_list (some ⟨w.heap.size, 0, none⟩) 4 sureL 2 _ C1.out (by decide) (by decide) sure_fin (HL.out.step B1.out)).mono ?_; rw [E1.out]; rintro e w2 ⟨rfl, d⟩; have B2 := Aside0.mk (below_post d B1.out); have C2 := Aside0.mk (Kd.C_below C1.out d); clear d _t tok1)
    | (go_at_call 22; refine (exact_list (some ⟨w.heap.size, 0, none⟩) 4 sureL 0 _ C2.out (by decide) (by decide) sure_fin (HL.out.step B2.out)).mono ?_; rw [E2.out]; rintro e w3 ⟨rfl, d⟩; have B3 := Aside0.mk (below_post d B2.out); have C3 := Aside0.mk (Kd.C_below C2.out d); clear d)
    | (go_at_call 20; refine (sums_Two.calls 10 _ _ _ _ _ sure_two (HL.out.step B3.out)).mono ?_; rintro e w4 ⟨rfl, d⟩; have B4 := Aside0.mk (below_post d B3.out); have C4 := Aside0.mk (Kd.C_below C3.out d); clear d)
    | (go_at_call 12; refine (sums_Row.calls 10 (some ⟨w.heap.size, 0, none⟩) 4 sureL _ _ C4.out (by decide) sure_row (HL.out.step B4.out)).mono ?_; rintro e w5 ⟨rfl, d⟩; have B5 := Aside0.mk (below_post d B4.out); have C5 := Aside0.mk (Kd.C_below C4.out d); clear d)
    | (go_at_call 16; refine (sums_Kept.calls 10 (some ⟨w.heap.size, 0, none⟩) 4 sureL _ _ C5.out (by decide) sure_kept (HL.out.step B5.out)).mono ?_; rintro e w6 ⟨rfl, d⟩; have B6 := Aside0.mk (below_post d B5.out); have C6 := Aside0.mk (Kd.C_below C5.out d); clear d)
    | (go_at_call 14; refine (sums_Halves.calls 10 (some ⟨w.heap.size, 0, none⟩) 4 sureL _ _ C6.out (by decide) sure_halves (HL.out.step B6.out)).mono ?_; rintro e w7 ⟨rfl, d⟩; have B7 := Aside0.mk (below_post d B6.out); clear d))
  go_ret
  exact ⟨rfl, B7.out⟩
end Go.Proofs.YthmeocigliephaaGreatDoor.Big
namespace Go.Proofs.YthmeocigliephaaGreatDoor
open Go.RowKit Go.Proofs.YthmeocigliephaaGreatDoorW.PrintWords Go.Proofs.YthmeocigliephaaGreatDoor.Big
def cusplaw05_sure.f : Option Bool := some true
theorem cusplaw05_sure.calls (r : Bool) (w : World) (h : cusplaw05_sure.f = some r) (hL : Laid w := by exact Go.Proofs.YthmeocigliephaaGreatDoor.Big.Laid.step HL.out hbw) :
    Calls Tryz.prog 19 #[] w fun e w' => e = .returned (.bool r) ∧ Below w.heap.size w w' := by
  obtain rfl := Option.some.inj h
  exact sure_any w hL
end Go.Proofs.YthmeocigliephaaGreatDoor
end
section
namespace Go.Proofs.YthmeocigliephaaGreatDoor.PSu
open Go.RowKit Go.Proofs.YthmeocigliephaaGreatDoorW.PrintWords Go.Proofs.YthmeocigliephaaGreatDoorW.PrintLast Go.Proofs.YthmeocigliephaaGreatDoorW.PrintMore
attribute [local go_sem] f64bits_run f64from_run run_float_some max2_int min2_int max_two min_two max_three min_three max_four min_four
def cuspref02_Float.f (k : Nat) (a0 : Nat) : Option (Bool × List Int × Int) := if (wrap64 (Go.bits .and .u64 (((a0 : Nat) : Int) / 4503599627370496) 2047)) = 0 then ((cuspref02_norm.f k ((((a0 : Nat) : Int) / 9223372036854775808) == 1) (([(Go.bits .and .u64 ((a0 : Nat) : Int) 4503599627370495) % 4294967296, ((Go.bits .and .u64 ((a0 : Nat) : Int) 4503599627370495) / 4294967296) % 4294967296] : List Int)) (1 - 1075)).bind fun bt361 => (some (bt361.1, bt361.2.1, bt361.2.2))) else ((cuspref02_norm.f k ((((a0 : Nat) : Int) / 9223372036854775808) == 1) (([(Go.bits .or .u64 (Go.bits .and .u64 ((a0 : Nat) : Int) 4503599627370495) 4503599627370496) % 4294967296, ((Go.bits .or .u64 (Go.bits .and .u64 ((a0 : Nat) : Int) 4503599627370495) 4503599627370496) / 4294967296) % 4294967296] : List Int)) (wrap64 ((wrap64 (Go.bits .and .u64 (((a0 : Nat) : Int) / 4503599627370496) 2047)) - 1075))).bind fun bt369 => (some (bt369.1, bt369.2.1, bt369.2.2)))
set_option maxHeartbeats 8000000 in
set_option maxRecDepth 100000 in
theorem cuspref02_Float.calls (k : Nat) (a0 : Nat) (r1 : Bool) (r2 : List Int) (r3 : Int) (w : World) (h : cuspref02_Float.f k a0 = some (r1, r2, r3)) :
  Calls Tryz.prog 26 #[.float .f64 a0] w fun e w' => ∃ v1_ : Value, e = .returned (.agg #[.bool r1, v1_, .int .i64 r3]) ∧ Kd.R (Kd.int .u32) 83 w' w.heap.size (fun _ => True) v1_ r2 ∧ Below w.heap.size w w' := by
 have hu41 := Tryz.underlying41
 have HB := Aside0.mk (Below.refl w.heap.size w)
 have H : (if (wrap64 (Go.bits .and .u64 (((a0 : Nat) : Int) / 4503599627370496) 2047)) = 0 then ((cuspref02_norm.f k ((((a0 : Nat) : Int) / 9223372036854775808) == 1) (([(Go.bits .and .u64 ((a0 : Nat) : Int) 4503599627370495) % 4294967296, ((Go.bits .and .u64 ((a0 : Nat) : Int) 4503599627370495) / 4294967296) % 4294967296] : List Int)) (1 - 1075)).bind fun bt361 => (some (bt361.1, bt361.2.1, bt361.2.2))) else ((cuspref02_norm.f k ((((a0 : Nat) : Int) / 9223372036854775808) == 1) (([(Go.bits .or .u64 (Go.bits .and .u64 ((a0 : Nat) : Int) 4503599627370495) 4503599627370496) % 4294967296, ((Go.bits .or .u64 (Go.bits .and .u64 ((a0 : Nat) : Int) 4503599627370495) 4503599627370496) / 4294967296) % 4294967296] : List Int)) (wrap64 ((wrap64 (Go.bits .and .u64 (((a0 : Nat) : Int) / 4503599627370496) 2047)) - 1075))).bind fun bt369 => (some (bt369.1, bt369.2.1, bt369.2.2)))) = some (r1, r2, r3) := h
 clear h
 by_cases c2 : (wrap64 (Go.bits .and .u64 (((a0 : Nat) : Int) / 4503599627370496) 2047)) = 0
 ·rw [if_pos c2] at H
  have c2b0 : ((wrap64 (Go.bits .and .u64 (((a0 : Nat) : Int) / 4503599627370496) 2047)) == 0) = true := beq_iff_eq.mpr c2
  have c2b1 : ((wrap64 (Go.bits .and .u64 (((a0 : Nat) : Int) / 4503599627370496) 2047)) != 0) = false := bne_eq_false_iff_eq.mpr c2
  clear c2
  obtain ⟨y358, hy358⟩ : ∃ y_ : List Int, y_ = (([(Go.bits .and .u64 ((a0 : Nat) : Int) 4503599627370495) % 4294967296, ((Go.bits .and .u64 ((a0 : Nat) : Int) 4503599627370495) / 4294967296) % 4294967296] : List Int)) := ⟨_, rfl⟩
  replace H : ((cuspref02_norm.f k ((((a0 : Nat) : Int) / 9223372036854775808) == 1) y358 (1 - 1075)).bind fun bt361 => (some (bt361.1, bt361.2.1, bt361.2.2))) = some (r1, r2, r3) := by first | (rw [hy358]; with_reducible exact H) | (have H2_ := (Option.bind_some _ _).symm.trans H; rw [hy358]; with_reducible exact H2_) | (have H2_ := (Option.bind_some _ _).symm.trans H; with_reducible exact H2_) | with_reducible exact H | (rw [hy358]; exact H) | exact H
  have Ny358 := Aside0.mk hy358
  clear hy358
  replace H := Option.bind_eq_some_iff.mp H
  obtain ⟨⟨t361, t362, t365⟩, A30, H⟩ := H
  replace H : (some (t361, t362, t365)) = some (r1, r2, r3) := H
  have A3 := Aside0.mk A30
  clear A30
  simp only [Option.some.injEq, Prod.mk.injEq] at H
  obtain ⟨rfl, rfl, rfl⟩ := H
  go_enter Tryz.func26, Tryz.ntmps26
  go_wp2_with (first | ((with_reducible refine gate_dst (N := 2) rfl ?_); refine box_event ?hg (N := 2) ?hd (cs := #[.bool false, .slice none 0 0, .int .i64 0]) (t := 41) ?hr ?_; (case hd => rfl); (case hg => rfl); (case hr => first | (go_simp; done) | (go_simp; rfl)); intro gb357 hg w4 hbox hb; have n0_ := Aside0.mk (below_step hbw hb); have n1_ := Aside0.mk (hbox); have n2_ := Aside0.mk ((by rw [hg]; exact (below_size hbw) : w.heap.size ≤ gb357)); have n3_ := Aside0.mk ((by rw [hg]; exact (below_size hbw) : w.heap.size ≤ gb357)); clear HB; have HB := n0_; have BK357 := n1_; have GW357 := n2_; have GE357 := n3_; clear n0_ n1_ n2_ n3_; clear hb hbox hg) | ((with_reducible refine gate_dst (N := 26) rfl ?_); refine Kd.R_lit (Kd.int .u32) _ 83 ?hg (N := 26) ?hd (xs := ([(Go.bits .and .u64 ((a0 : Nat) : Int) 4503599627370495) % 4294967296, ((Go.bits .and .u64 ((a0 : Nat) : Int) 4503599627370495) / 4294967296) % 4294967296] : List Int)) (inner := [.int .u32 ((Go.bits .and .u64 ((a0 : Nat) : Int) 4503599627370495) % 4294967296), .int .u32 (((Go.bits .and .u64 ((a0 : Nat) : Int) 4503599627370495) / 4294967296) % 4294967296)]) (ok := fun _ => True) (okp := fun _ => True) ?hr ?hp (fun _ hk => hk) trivial (Below.refl _ _) (Nat.le_refl _) (by simp) ?_; (case hd => rfl); (case hg => rfl); (case hr => first | (go_simp; done) | (go_simp; rfl)); (case hp => exact (Reps.one (show Kd.M (Kd.int .u32) _ _ _ ((Go.bits .and .u64 ((a0 : Nat) : Int) 4503599627370495) % 4294967296) [.int .u32 ((Go.bits .and .u64 ((a0 : Nat) : Int) 4503599627370495) % 4294967296)] from rfl) (Reps.one (show Kd.M (Kd.int .u32) _ _ _ (((Go.bits .and .u64 ((a0 : Nat) : Int) 4503599627370495) / 4294967296) % 4294967296) [.int .u32 (((Go.bits .and .u64 ((a0 : Nat) : Int) 4503599627370495) / 4294967296) % 4294967296)] from rfl) (Reps.none _ _)))); intro v359 w5 ho6 hb hg_ hnew_; clear hg_ hnew_; (first | rw [← Ny358.out] at ho6 | (simp only [Int.reduceToNat] at ho6; rw [← Ny358.out] at ho6)); have n0_ := Aside0.mk (Kd.R_lower ho6 (below_size (by repeat (first | (with_reducible first | exact HB.out | apply below_alloc | apply pw_below_drewN | apply below_drew1 | refine below_set ?_ GE357.out) | exact HB.out)))); have n1_ := Aside0.mk (blk_below (g := gb357) (o := .cells #[.bool false, .slice none 0 0, .int .i64 0] 41 (0, 0)) (blkU BK357.out) hb); have n2_ := Aside0.mk (below_step (by repeat (first | (with_reducible first | exact HB.out | apply below_alloc | apply pw_below_drewN | apply below_drew1 | refine below_set ?_ GE357.out) | exact HB.out)) hb); clear BK357; clear HB; have HO360 := n0_; have BK357 := n1_; have HB := n2_; clear n0_ n1_ n2_; clear hb ho6; obtain ⟨Ao7, co7, eo7⟩ := Kd.R_slice HO360.out; subst eo7) | ((with_reducible refine gate_callee (f := 65) rfl ?_); refine goesL_ (some 29) rfl rfl Tryz.func65 (by kernel_rfl) rfl #[.bool ((((a0 : Nat) : Int) / 9223372036854775808) == 1), .slice Ao7 y358.length co7, .int .i64 (1 - 1075)] rfl eqA ?_; (with_reducible refine (cuspref02_norm.calls k ((((a0 : Nat) : Int) / 9223372036854775808) == 1) (fun k_ => some k_ = (.slice Ao7 y358.length co7 : Value).ownBlock) (.slice Ao7 y358.length co7) y358 (1 - 1075) t361 t362 t365 w _ ?side1 ?side2 A3.out).mono ?_); (case side1 => repeat (first | (with_reducible first | exact HB.out | apply below_alloc | apply pw_below_drewN | apply below_drew1 | refine below_set ?_ GE357.out) | exact HB.out)); (case side2 => exact Kd.R_tight rfl HO360.out); rintro e w8 ⟨v363, rfl, ho0, hb, hkp⟩; refine ⟨_, rfl, ?_⟩; have n0_ := Aside0.mk (blk_kept (blkU BK357.out) hkp (fun hs_ => (fun e_ => (Kd.R_ne HO360.out BK357.out (by decide)) e_) hs_)); have n1_ := Aside0.mk (Kd.R_mono (ok' := fun k_ => True) ho0 (fun k_ hk_ => trivial)); have n2_ := Aside0.mk (hb); clear BK357; clear HB; clear HO360; have BK357 := n0_; have HO364 := n1_; have HB := n2_; clear n0_ n1_ n2_; (try clear hb); (try clear hkp); (try clear ho0); have hcz9_0 : w8.cell? ⟨gb357, 0, none⟩ = some (.bool false) := (blk_cell BK357.out 0).trans rfl; have hcz9_1 : w8.cell? ⟨gb357, 1, none⟩ = some (.slice none 0 0) := (blk_cell BK357.out 1).trans rfl; have hcz9_2 : w8.cell? ⟨gb357, 2, none⟩ = some (.int .i64 0) := (blk_cell BK357.out 2).trans rfl; have hfz9_0 := blk_frozen BK357.out 0; have hfz9_1 := blk_frozen BK357.out 1; have hfz9_2 := blk_frozen BK357.out 2; obtain ⟨Ao10, co10, eo10⟩ := Kd.R_slice HO364.out; subst eo10))
  refine bodyPost_ret (results_cell_row rfl _ _ gb357 41 #[.bool t361, .slice Ao10 t362.length co10, .int .i64 t365] (0, 0) _ rfl (by (with_reducible repeat (first | refine blk_drewN ?_ _ | refine blk_drew ?_ | refine blk_alloc ?_ _)); refine blk_put (cs := #[.bool t361, .slice Ao10 t362.length co10, .int .i64 0]) ?_ 2 _ rfl; (with_reducible repeat (first | refine blk_drewN ?_ _ | refine blk_drew ?_ | refine blk_alloc ?_ _)); refine blk_put (cs := #[.bool t361, .slice none 0 0, .int .i64 0]) ?_ 1 _ rfl; (with_reducible repeat (first | refine blk_drewN ?_ _ | refine blk_drew ?_ | refine blk_alloc ?_ _)); refine blk_put (cs := #[.bool false, .slice none 0 0, .int .i64 0]) ?_ 0 _ rfl; (with_reducible repeat (first | refine blk_drewN ?_ _ | refine blk_drew ?_ | refine blk_alloc ?_ _)); exact BK357.out) Tryz.underlying41 rfl (by kernel_rfl)) rfl ?_
  exact ⟨_, by first | rfl | (simp [errW_none, errW_some] <;> rfl) | (simp [*, errW_none, errW_some] <;> rfl), by (with_reducible repeat (first | apply Kd.R_alloc | apply Kd.R_drewN | apply Kd.R_drew)); exact Kd.R_mono (Kd.R_far (p := ⟨gb357, 2, none⟩) (Kd.R_far (p := ⟨gb357, 1, none⟩) (Kd.R_far (p := ⟨gb357, 0, none⟩) (Kd.R_types HO364.out BK357.out (by decide)) (fun _ hk => hk.2) (.bool t361)) (fun _ hk => hk.2) (.slice Ao10 t362.length co10)) (fun _ hk => hk.2) (.int .i64 t365)) (fun _ hk => trivial), by repeat (first | (with_reducible first | exact HB.out | apply below_alloc | apply pw_below_drewN | apply below_drew1 | refine below_set ?_ GE357.out) | exact HB.out)⟩
 ·rw [if_neg c2] at H
  have c2b0 : ((wrap64 (Go.bits .and .u64 (((a0 : Nat) : Int) / 4503599627370496) 2047)) == 0) = false := beq_eq_false_iff_ne.mpr c2
  have c2b1 : ((wrap64 (Go.bits .and .u64 (((a0 : Nat) : Int) / 4503599627370496) 2047)) != 0) = true := bne_iff_ne.mpr c2
  obtain ⟨y366, hy366⟩ : ∃ y_ : List Int, y_ = (([(Go.bits .or .u64 (Go.bits .and .u64 ((a0 : Nat) : Int) 4503599627370495) 4503599627370496) % 4294967296, ((Go.bits .or .u64 (Go.bits .and .u64 ((a0 : Nat) : Int) 4503599627370495) 4503599627370496) / 4294967296) % 4294967296] : List Int)) := ⟨_, rfl⟩
  replace H : ((cuspref02_norm.f k ((((a0 : Nat) : Int) / 9223372036854775808) == 1) y366 (wrap64 ((wrap64 (Go.bits .and .u64 (((a0 : Nat) : Int) / 4503599627370496) 2047)) - 1075))).bind fun bt369 => (some (bt369.1, bt369.2.1, bt369.2.2))) = some (r1, r2, r3) := by first | (rw [hy366]; with_reducible exact H) | (have H2_ := (Option.bind_some _ _).symm.trans H; rw [hy366]; with_reducible exact H2_) | (have H2_ := (Option.bind_some _ _).symm.trans H; with_reducible exact H2_) | with_reducible exact H | (rw [hy366]; exact H) | exact H
  have Ny366 := Aside0.mk hy366
  clear hy366
  replace H := Option.bind_eq_some_iff.mp H
  obtain ⟨⟨t369, t370, t373⟩, A110, H⟩ := H
  replace H : (some (t369, t370, t373)) = some (r1, r2, r3) := H
  have A11 := Aside0.mk A110
  clear A110
  simp only [Option.some.injEq, Prod.mk.injEq] at H
  obtain ⟨rfl, rfl, rfl⟩ := H
  go_enter Tryz.func26, Tryz.ntmps26
  go_wp2_with (first | ((with_reducible refine gate_dst (N := 2) rfl ?_); refine box_event ?hg (N := 2) ?hd (cs := #[.bool false, .slice none 0 0, .int .i64 0]) (t := 41) ?hr ?_; (case hd => rfl); (case hg => rfl); (case hr => first | (go_simp; done) | (go_simp; rfl)); intro gb357 hg w12 hbox hb; have n0_ := Aside0.mk (below_step hbw hb); have n1_ := Aside0.mk (hbox); have n2_ := Aside0.mk ((by rw [hg]; exact (below_size hbw) : w.heap.size ≤ gb357)); have n3_ := Aside0.mk ((by rw [hg]; exact (below_size hbw) : w.heap.size ≤ gb357)); clear HB; have HB := n0_; have BK357 := n1_; have GW357 := n2_; have GE357 := n3_; clear n0_ n1_ n2_ n3_; clear hb hbox hg) | ((with_reducible refine gate_dst (N := 26) rfl ?_); refine Kd.R_lit (Kd.int .u32) _ 83 ?hg (N := 26) ?hd (xs := ([(Go.bits .or .u64 (Go.bits .and .u64 ((a0 : Nat) : Int) 4503599627370495) 4503599627370496) % 4294967296, ((Go.bits .or .u64 (Go.bits .and .u64 ((a0 : Nat) : Int) 4503599627370495) 4503599627370496) / 4294967296) % 4294967296] : List Int)) (inner := [.int .u32 ((Go.bits .or .u64 (Go.bits .and .u64 ((a0 : Nat) : Int) 4503599627370495) 4503599627370496) % 4294967296), .int .u32 (((Go.bits .or .u64 (Go.bits .and .u64 ((a0 : Nat) : Int) 4503599627370495) 4503599627370496) / 4294967296) % 4294967296)]) (ok := fun _ => True) (okp := fun _ => True) ?hr ?hp (fun _ hk => hk) trivial (Below.refl _ _) (Nat.le_refl _) (by simp) ?_; (case hd => rfl); (case hg => rfl); (case hr => first | (go_simp; done) | (go_simp; rfl)); (case hp => exact (Reps.one (show Kd.M (Kd.int .u32) _ _ _ ((Go.bits .or .u64 (Go.bits .and .u64 ((a0 : Nat) : Int) 4503599627370495) 4503599627370496) % 4294967296) [.int .u32 ((Go.bits .or .u64 (Go.bits .and .u64 ((a0 : Nat) : Int) 4503599627370495) 4503599627370496) % 4294967296)] from rfl) (Reps.one (show Kd.M (Kd.int .u32) _ _ _ (((Go.bits .or .u64 (Go.bits .and .u64 ((a0 : Nat) : Int) 4503599627370495) 4503599627370496) / 4294967296) % 4294967296) [.int .u32 (((Go.bits .or .u64 (Go.bits .and .u64 ((a0 : Nat) : Int) 4503599627370495) 4503599627370496) / 4294967296) % 4294967296)] from rfl) (Reps.none _ _)))); intro v367 w13 ho14 hb hg_ hnew_; clear hg_ hnew_; (first | rw [← Ny366.out] at ho14 | (simp only [Int.reduceToNat] at ho14; rw [← Ny366.out] at ho14)); have n0_ := Aside0.mk (Kd.R_lower ho14 (below_size (by repeat (first | (with_reducible first | exact HB.out | apply below_alloc | apply pw_below_drewN | apply below_drew1 | refine below_set ?_ GE357.out) | exact HB.out)))); have n1_ := Aside0.mk (blk_below (g := gb357) (o := .cells #[.bool false, .slice none 0 0, .int .i64 0] 41 (0, 0)) (blkU BK357.out) hb); have n2_ := Aside0.mk (below_step (by repeat (first | (with_reducible first | exact HB.out | apply below_alloc | apply pw_below_drewN | apply below_drew1 | refine below_set ?_ GE357.out) | exact HB.out)) hb); clear BK357; clear HB; have HO368 := n0_; have BK357 := n1_; have HB := n2_; clear n0_ n1_ n2_; clear hb ho14; obtain ⟨Ao15, co15, eo15⟩ := Kd.R_slice HO368.out; subst eo15) | ((with_reducible refine gate_callee (f := 65) rfl ?_); refine goesL_ (some 29) rfl rfl Tryz.func65 (by kernel_rfl) rfl #[.bool ((((a0 : Nat) : Int) / 9223372036854775808) == 1), .slice Ao15 y366.length co15, .int .i64 (wrap64 ((wrap64 (Go.bits .and .u64 (((a0 : Nat) : Int) / 4503599627370496) 2047)) - 1075))] rfl eqA ?_; (with_reducible refine (cuspref02_norm.calls k ((((a0 : Nat) : Int) / 9223372036854775808) == 1) (fun k_ => some k_ = (.slice Ao15 y366.length co15 : Value).ownBlock) (.slice Ao15 y366.length co15) y366 (wrap64 ((wrap64 (Go.bits .and .u64 (((a0 : Nat) : Int) / 4503599627370496) 2047)) - 1075)) t369 t370 t373 w _ ?side1 ?side2 A11.out).mono ?_); (case side1 => repeat (first | (with_reducible first | exact HB.out | apply below_alloc | apply pw_below_drewN | apply below_drew1 | refine below_set ?_ GE357.out) | exact HB.out)); (case side2 => exact Kd.R_tight rfl HO368.out); rintro e w16 ⟨v371, rfl, ho0, hb, hkp⟩; refine ⟨_, rfl, ?_⟩; have n0_ := Aside0.mk (blk_kept (blkU BK357.out) hkp (fun hs_ => (fun e_ => (Kd.R_ne HO368.out BK357.out (by decide)) e_) hs_)); have n1_ := Aside0.mk (Kd.R_mono (ok' := fun k_ => True) ho0 (fun k_ hk_ => trivial)); have n2_ := Aside0.mk (hb); clear BK357; clear HB; clear HO368; have BK357 := n0_; have HO372 := n1_; have HB := n2_; clear n0_ n1_ n2_; (try clear hb); (try clear hkp); (try clear ho0); have hcz17_0 : w16.cell? ⟨gb357, 0, none⟩ = some (.bool false) := (blk_cell BK357.out 0).trans rfl; have hcz17_1 : w16.cell? ⟨gb357, 1, none⟩ = some (.slice none 0 0) := (blk_cell BK357.out 1).trans rfl; have hcz17_2 : w16.cell? ⟨gb357, 2, none⟩ = some (.int .i64 0) := (blk_cell BK357.out 2).trans rfl; have hfz17_0 := blk_frozen BK357.out 0; have hfz17_1 := blk_frozen BK357.out 1; have hfz17_2 := blk_frozen BK357.out 2; obtain ⟨Ao18, co18, eo18⟩ := Kd.R_slice HO372.out; subst eo18))
  refine bodyPost_ret (results_cell_row rfl _ _ gb357 41 #[.bool t369, .slice Ao18 t370.length co18, .int .i64 t373] (0, 0) _ rfl (by (with_reducible repeat (first | refine blk_drewN ?_ _ | refine blk_drew ?_ | refine blk_alloc ?_ _)); refine blk_put (cs := #[.bool t369, .slice Ao18 t370.length co18, .int .i64 0]) ?_ 2 _ rfl; (with_reducible repeat (first | refine blk_drewN ?_ _ | refine blk_drew ?_ | refine blk_alloc ?_ _)); refine blk_put (cs := #[.bool t369, .slice none 0 0, .int .i64 0]) ?_ 1 _ rfl; (with_reducible repeat (first | refine blk_drewN ?_ _ | refine blk_drew ?_ | refine blk_alloc ?_ _)); refine blk_put (cs := #[.bool false, .slice none 0 0, .int .i64 0]) ?_ 0 _ rfl; (with_reducible repeat (first | refine blk_drewN ?_ _ | refine blk_drew ?_ | refine blk_alloc ?_ _)); exact BK357.out) Tryz.underlying41 rfl (by kernel_rfl)) rfl ?_
  exact ⟨_, by first | rfl | (simp [errW_none, errW_some] <;> rfl) | (simp [*, errW_none, errW_some] <;> rfl), by (with_reducible repeat (first | apply Kd.R_alloc | apply Kd.R_drewN | apply Kd.R_drew)); exact Kd.R_mono (Kd.R_far (p := ⟨gb357, 2, none⟩) (Kd.R_far (p := ⟨gb357, 1, none⟩) (Kd.R_far (p := ⟨gb357, 0, none⟩) (Kd.R_types HO372.out BK357.out (by decide)) (fun _ hk => hk.2) (.bool t369)) (fun _ hk => hk.2) (.slice Ao18 t370.length co18)) (fun _ hk => hk.2) (.int .i64 t373)) (fun _ hk => trivial), by repeat (first | (with_reducible first | exact HB.out | apply below_alloc | apply pw_below_drewN | apply below_drew1 | refine below_set ?_ GE357.out) | exact HB.out)⟩
def cuspref05_Total.l0 : Nat → List Nat → Int → Bool → List Int → Int → Option (Bool × List Int × Int)
 | 0, _, _, _, _, _ => none
 | k + 1, x0, x4, x376000, x376001, x376002 => if x4 < (x0.length : Int) then (if 0 ≤ x4 then ((cuspref02_Float.f k (rdOf (0 : Nat) x0 x4)).bind fun bt377 => ((cuspref02_Plus.f x376000 x376001 x376002 bt377.1 bt377.2.1 bt377.2.2).bind fun bt382 => (cuspref05_Total.l0 k x0 (wrap64 (x4 + 1)) bt382.1 bt382.2.1 bt382.2.2))) else (none)) else (some (x376000, x376001, x376002))
def cuspref05_Total.f (k : Nat) (l0 : List Nat) : Option (Bool × List Int × Int) := cuspref05_Total.l0 k l0 0 false ([] : List Int) 0
def cuspref05_Total.T5 : Bool × List (List Nat × List Nat) := (true, [([], []), ([], []), ([], []), ([1, 2], [1, 2]), ([3], [3]), ([4], [4]), ([0, 5, 5], [0, 5]), ([6, 6, 0, 1, 2, 3, 4, 5, 6], [6])])
def cuspref05_Total.B5 : List Nat := [0, 0, 0, 6, 14, 30, 63, 127]
theorem cuspref05_Total.tab5 : rtab .any (opsOf Tryz.f60 5) = cuspref05_Total.T5 := by kernel_rfl
theorem cuspref05_Total.bits5 : waitsOk cuspref05_Total.T5.2 cuspref05_Total.B5 = true := by kernel_rfl
set_option maxHeartbeats 8000000 in
set_option maxRecDepth 100000 in
theorem cuspref05_Total.calls (k : Nat) (A0 : Option Addr) (c0 : Nat) (l0 : List Nat) (r1 : Bool) (r2 : List Int) (r3 : Int) (w : World) (hr0 : Kd.C Kd.float w A0 l0.length l0) (hc0 : l0.length ≤ c0) (h : cuspref05_Total.f k l0 = some (r1, r2, r3)) :
  Calls Tryz.prog 60 #[.slice A0 l0.length c0] w fun e w' => ∃ v1_ : Value, e = .returned (.agg #[.bool r1, v1_, .int .i64 r3]) ∧ Kd.R (Kd.int .u32) 83 w' w.heap.size (fun _ => True) v1_ r2 ∧ Below w.heap.size w w' := by
 have hu41 := Tryz.underlying41
 have HR0 := Aside0.mk hr0
 have HC0 := Aside0.mk hc0
 clear hr0 hc0
 have HB := Aside0.mk (Below.refl w.heap.size w)
 have H : (cuspref05_Total.l0 k l0 0 false ([] : List Int) 0) = some (r1, r2, r3) := h
 clear h
 have H' := Aside0.mk H
 clear H
 go_enter Tryz.func60, Tryz.ntmps60
 go_wp2_with (first | ((with_reducible refine gate_dst (N := 2) rfl ?_); refine box_event ?hg (N := 2) ?hd (cs := #[.bool false, .slice none 0 0, .int .i64 0]) (t := 41) ?hr ?_; (case hd => rfl); (case hg => rfl); (case hr => first | (go_simp; done) | (go_simp; rfl)); intro gb374 hg w2 hbox hb; have n0_ := Aside0.mk (below_step hbw hb); have n1_ := Aside0.mk (hbox); have n2_ := Aside0.mk ((by rw [hg]; exact (below_size hbw) : w.heap.size ≤ gb374)); have n3_ := Aside0.mk ((by rw [hg]; exact (below_size hbw) : w.heap.size ≤ gb374)); clear HB; have HB := n0_; have BK374 := n1_; have GW374 := n2_; have GE374 := n3_; clear n0_ n1_ n2_ n3_; clear hb hbox hg) | ((with_reducible refine gate_dst (N := 3) rfl ?_); refine box_event ?hg (N := 3) ?hd (cs := #[.bool false, .slice none 0 0, .int .i64 0]) (t := 41) ?hr ?_; (case hd => rfl); (case hg => rfl); (case hr => first | (go_simp; done) | (go_simp; rfl)); intro gb375 hg w3 hbox hb; have n0_ := Aside0.mk (blk_below (g := gb374) (o := .cells #[.bool false, .slice none 0 0, .int .i64 0] 41 (0, 0)) (blkU BK374.out) hb); have n1_ := Aside0.mk (below_step (by repeat (first | (with_reducible first | exact HB.out | apply below_alloc | apply pw_below_drewN | apply below_drew1 | refine below_set ?_ GE374.out) | exact HB.out)) hb); have n2_ := Aside0.mk (hbox); have n3_ := Aside0.mk ((by rw [hg]; exact (below_size (by repeat (first | (with_reducible first | exact HB.out | apply below_alloc | apply pw_below_drewN | apply below_drew1 | refine below_set ?_ GE374.out) | exact HB.out))) : w.heap.size ≤ gb375)); have n4_ := Aside0.mk ((by rw [hg]; exact (below_size (by repeat (first | (with_reducible first | exact HB.out | apply below_alloc | apply pw_below_drewN | apply below_drew1 | refine below_set ?_ GE374.out) | exact HB.out))) : w.heap.size ≤ gb375)); have n5_ := Aside0.mk ((by rw [hg]; exact Nat.ne_of_lt (blk_lt (g := gb374) (o := .cells #[.bool false, .slice none 0 0, .int .i64 0] 41 (0, 0)) (blkU BK374.out)) : gb374 ≠ gb375)); have n6_ := Aside0.mk ((by rw [hg]; exact Nat.ne_of_gt (blk_lt (g := gb374) (o := .cells #[.bool false, .slice none 0 0, .int .i64 0] 41 (0, 0)) (blkU BK374.out)) : gb375 ≠ gb374)); clear BK374; clear HB; have BK374 := n0_; have HB := n1_; have BK375 := n2_; have GW375 := n3_; have GE375 := n4_; have NB374_375 := n5_; have NB375_374 := n6_; clear n0_ n1_ n2_ n3_ n4_ n5_ n6_; clear hb hbox hg; have hnb4 := NB375_374.out; have hnc4 := NB374_375.out; have hcz5_0 : w3.cell? ⟨gb375, 0, none⟩ = some (.bool false) := (blk_cell BK375.out 0).trans rfl; have hcz5_1 : w3.cell? ⟨gb375, 1, none⟩ = some (.slice none 0 0) := (blk_cell BK375.out 1).trans rfl; have hcz5_2 : w3.cell? ⟨gb375, 2, none⟩ = some (.int .i64 0) := (blk_cell BK375.out 2).trans rfl; have hfz5_0 := blk_frozen BK375.out 0; have hfz5_1 := blk_frozen BK375.out 1; have hfz5_2 := blk_frozen BK375.out 2))
 go_loopg [4] k (fun kq v4 w' => ∃ (x4_1 : Int) (x376000_1 : Bool) (x376001_1 : List Int) (x376002_1 : Int) (u376001 : Value), v4 = .int .i64 x4_1 ∧ Aside0 (cuspref05_Total.l0 kq l0 x4_1 x376000_1 x376001_1 x376002_1 = some (r1, r2, r3)) ∧ Aside0 (kq ≤ k) ∧ Aside0 (Kd.R (Kd.int .u32) 83 w' w.heap.size (fun _ => True) u376001 x376001_1) ∧ Aside0 (w'.heap[gb374]? = some (.cells #[.bool false, (.slice none 0 0), .int .i64 0] 41 (0, 0))) ∧ Aside0 (w'.heap[gb375]? = some (.cells #[.bool x376000_1, u376001, .int .i64 x376002_1] 41 (0, 0))) ∧ Aside0 (Below w.heap.size w w'))
 case atStart => exact ⟨(0), (false), (([] : List Int)), (0), (.slice none 0 0), (by first | rfl | (simp; done) | (simp [*]; done)), H', ⟨Nat.le_refl _⟩, ⟨by first | exact Kd.R_nil _ _ _ _ _ | exact Kd.N_nil _ _ _ _ _ | exact Kd.V_nil _ _ _ _ _ | exact Kd.Q_nil _ _ _ _ _ | exact Kd.S_nil _ _ _ _ _⟩, ⟨by (with_reducible repeat (first | refine blk_drewN ?_ _ | refine blk_drew ?_ | refine blk_alloc ?_ _)); refine blk_far ?_ NB374_375.out _; (with_reducible repeat (first | refine blk_drewN ?_ _ | refine blk_drew ?_ | refine blk_alloc ?_ _)); refine blk_far ?_ NB374_375.out _; (with_reducible repeat (first | refine blk_drewN ?_ _ | refine blk_drew ?_ | refine blk_alloc ?_ _)); refine blk_far ?_ NB374_375.out _; (with_reducible repeat (first | refine blk_drewN ?_ _ | refine blk_drew ?_ | refine blk_alloc ?_ _)); exact BK374.out⟩, ⟨by (with_reducible repeat (first | refine blk_drewN ?_ _ | refine blk_drew ?_ | refine blk_alloc ?_ _)); refine blk_put (cs := #[.bool false, .slice none 0 0, .int .i64 0]) ?_ 2 _ rfl; (with_reducible repeat (first | refine blk_drewN ?_ _ | refine blk_drew ?_ | refine blk_alloc ?_ _)); refine blk_put (cs := #[.bool false, .slice none 0 0, .int .i64 0]) ?_ 1 _ rfl; (with_reducible repeat (first | refine blk_drewN ?_ _ | refine blk_drew ?_ | refine blk_alloc ?_ _)); refine blk_put (cs := #[.bool false, .slice none 0 0, .int .i64 0]) ?_ 0 _ rfl; (with_reducible repeat (first | refine blk_drewN ?_ _ | refine blk_drew ?_ | refine blk_alloc ?_ _)); exact BK375.out⟩, ⟨by repeat (first | (with_reducible first | exact HB.out | apply below_alloc | apply pw_below_drewN | apply below_drew1 | refine below_set ?_ GE374.out | refine below_set ?_ GE375.out) | exact HB.out)⟩⟩
 case round =>
  clear H'
  try clear p2
  try clear c4
  try clear hcz5_0
  try clear hcz5_1
  try clear hcz5_2
  try clear hfz5_0
  try clear hfz5_1
  try clear hfz5_2
  obtain ⟨x4_1, x376000_1, x376001_1, x376002_1, u376001, rfl, HA, HK1, HO_376001, BK374, BK375, HB⟩ := hrel
  cases gk with
  | zero => exact absurd HA.out (by simp [cuspref05_Total.l0])
  | succ k1 =>
   have H := HA.out
   clear HA
   simp only [cuspref05_Total.l0] at H
   by_cases c6 : x4_1 < (l0.length : Int)
   ·rw [if_pos c6] at H
    have c6b0 : decide (x4_1 < (l0.length : Int)) = true := decide_eq_true c6
    clear c6
    by_cases c7 : 0 ≤ x4_1
    ·rw [if_pos c7] at H
     have c7b0 : decide (0 ≤ x4_1) = true := decide_eq_true c7
     clear c7
     replace H := Option.bind_eq_some_iff.mp H
     obtain ⟨⟨t377, t378, t381⟩, A80, H⟩ := H
     replace H : ((cuspref02_Plus.f x376000_1 x376001_1 x376002_1 t377 t378 t381).bind fun bt382 => (cuspref05_Total.l0 k1 l0 (wrap64 (x4_1 + 1)) bt382.1 bt382.2.1 bt382.2.2)) = some (r1, r2, r3) := H
     have A8 := Aside0.mk A80
     clear A80
     replace H := Option.bind_eq_some_iff.mp H
     obtain ⟨⟨t382, t383, t386⟩, A90, H⟩ := H
     replace H : (cuspref05_Total.l0 k1 l0 (wrap64 (x4_1 + 1)) t382 t383 t386) = some (r1, r2, r3) := H
     have A9 := Aside0.mk A90
     clear A90
     have H' := Aside0.mk H
     clear H
     try go_wp2
     have n0_ := Aside0.mk (Kd.R_drew HO_376001.out)
     have n1_ := Aside0.mk (blk_drew BK374.out)
     have n2_ := Aside0.mk (blk_drew BK375.out)
     have n3_ := Aside0.mk (below_drew1 HB.out)
     clear HO_376001
     clear BK374
     clear BK375
     clear HB
     have HO_376001 := n0_
     have BK374 := n1_
     have BK375 := n2_
     have HB := n3_
     clear n0_ n1_ n2_ n3_
     have p376 : 0 ≤ (x4_1 : Int) := of_decide_eq_true (by first | (with_reducible assumption) | assumption)
     have q376 : x4_1 < (l0.length : Int) := of_decide_eq_true (by first | (with_reducible assumption) | assumption)
     obtain ⟨ad376, e376, hx376_0⟩ := Kd.at_float HR0.out x4_1 p376 q376
     have hw376_0 := hx376_0
     cases e376
     replace hx376_0 := (HB.out.cell (World.block_lt_of_cell? w _ hx376_0)).trans hx376_0
     replace p376 := eq_true p376
     replace q376 := eq_true q376
     refine start_ (n := 8) (S := fun w' => w'.cell? ⟨gb375, 0, none⟩ = some (.bool x376000_1) ∧ w'.cell? ⟨gb375, 1, none⟩ = some (u376001) ∧ w'.cell? ⟨gb375, 2, none⟩ = some (.int .i64 x376002_1) ∧ w'.cell? (ad376.add (x4_1).toNat) = some (.float .f64 (rdOf (0 : Nat) l0 x4_1))) (ds := [7]) #[false, false, false, false, false, false, false, false] (by kernel_rfl) rfl rfl ⟨(blk_cell BK375.out 0).trans rfl, (blk_cell BK375.out 1).trans rfl, (blk_cell BK375.out 2).trans rfl, ((HB.out.cell (World.block_lt_of_cell? w _ hw376_0)).trans hw376_0)⟩ (fun hHeld => ?_); refine with_tabW cuspref05_Total.tab5 cuspref05_Total.bits5 (fun HT_ HW_ => ?_)
     generalize wr.drew = w10 at HO_376001 BK374 BK375 HB hx376_0 hHeld ⊢
     refine pure_ (i := 1) (N := some 13) (v := ?_) (a' := ?_) #[false, true, false, false, false, false, false, false] rfl rfl (any_of HT_.out (by kernel_rfl)) (fun _ _ _ h => h) (Or.inl ⟨by rfl, ?_⟩) ?_ ?_
     rotate_left
     ·intro w'
      go_simp
      with_reducible rfl
     rotate_left
     ·simp only [Act.put, List.setIfInBounds_toArray, List.set_cons_zero, List.set_cons_succ, i64_w, i32_w]
      rfl
     refine pure_ (i := 2) (N := some 14) (v := ?_) (a' := ?_) #[false, true, true, false, false, false, false, false] rfl rfl (any_of HT_.out (by kernel_rfl)) (fun _ _ _ h => h) (Or.inl ⟨by rfl, ?_⟩) ?_ ?_
     rotate_left
     ·intro w'
      go_simp
      with_reducible rfl
     rotate_left
     ·simp only [Act.put, List.setIfInBounds_toArray, List.set_cons_zero, List.set_cons_succ, i64_w, i32_w]
      rfl
     refine pure_ (i := 3) (N := some 15) (v := ?_) (a' := ?_) #[false, true, true, true, false, false, false, false] rfl rfl (any_of HT_.out (by kernel_rfl)) (fun _ _ _ h => h) (Or.inl ⟨by rfl, ?_⟩) ?_ ?_
     rotate_left
     ·intro w'
      go_simp
      with_reducible rfl
     rotate_left
     ·simp only [Act.put, List.setIfInBounds_toArray, List.set_cons_zero, List.set_cons_succ, i64_w, i32_w]
      rfl
     refine take_ (i := 0) (N := some 12) (v := ?_) (a' := ?_) #[true, true, true, true, false, false, false, false] rfl rfl (take_ofW HT_.out HW_.out (by kernel_rfl)) (fun _ _ _ h => h) (Or.inl ⟨by rfl, ?_⟩) hHeld ?_ ?_
     rotate_left
     ·rintro w' ⟨s0, s1, s2, s3⟩
      go_simp
      with_reducible rfl
     rotate_left
     ·simp only [Act.put, List.setIfInBounds_toArray, List.set_cons_zero, List.set_cons_succ, i64_w, i32_w]
      rfl
     refine take_ (i := 4) (N := some 16) (v := ?_) (a' := ?_) #[true, true, true, true, true, false, false, false] rfl rfl (take_ofW HT_.out HW_.out (by kernel_rfl)) (fun _ _ _ h => h) (Or.inl ⟨by rfl, ?_⟩) hHeld ?_ ?_
     rotate_left
     ·rintro w' ⟨s0, s1, s2, s3⟩
      go_simp
      with_reducible rfl
     rotate_left
     ·simp only [Act.put, List.setIfInBounds_toArray, List.set_cons_zero, List.set_cons_succ, i64_w, i32_w]
      rfl
     refine one_ (i := 5) (N := some 17) #[true, true, true, true, true, true, false, false] rfl rfl (one_of HT_.out (by kernel_rfl)) (by decide) (fun K hK => ?_)
     refine goes_ Tryz.func26 (by kernel_rfl) rfl #[.float .f64 (rdOf (0 : Nat) l0 x4_1)] (by rfl) rfl rfl eqA ?_
     with_reducible refine (cuspref02_Float.calls k1 (rdOf (0 : Nat) l0 x4_1) t377 t378 t381 _ A8.out).mono ?_
     rintro e w11 ⟨v379, rfl, ho0, hb⟩
     refine ⟨_, rfl, ?_⟩
     have n0_ := Aside0.mk (Kd.R_elder' (rUp HO_376001.out) (Kd.R_base ho0) hb)
     have n1_ := Aside0.mk (Kd.R_lower (Kd.R_new' ho0 (Kd.R_lt (rUp HO_376001.out))) (below_size (by repeat (first | (with_reducible first | exact HB.out | apply below_alloc | apply pw_below_drewN | apply below_drew1 | refine below_set ?_ GE374.out | refine below_set ?_ GE375.out) | exact HB.out))))
     have n2_ := Aside0.mk (blk_below (g := gb374) (o := .cells #[.bool false, .slice none 0 0, .int .i64 0] 41 (0, 0)) (blkU BK374.out) hb)
     have n3_ := Aside0.mk (blk_below (g := gb375) (o := .cells #[.bool x376000_1, u376001, .int .i64 x376002_1] 41 (0, 0)) (blkU BK375.out) hb)
     have n4_ := Aside0.mk (below_step (by repeat (first | (with_reducible first | exact HB.out | apply below_alloc | apply pw_below_drewN | apply below_drew1 | refine below_set ?_ GE374.out | refine below_set ?_ GE375.out) | exact HB.out)) hb)
     clear HO_376001
     clear BK374
     clear BK375
     clear HB
     have HO_376001 := n0_
     have HO380 := n1_
     have BK374 := n2_
     have BK375 := n3_
     have HB := n4_
     clear n0_ n1_ n2_ n3_ n4_
     (try clear hb)
     (try clear hb2)
     (try clear hk)
     (try clear hi)
     (try clear ho0)
     obtain ⟨Ao12, co12, eo12⟩ := Kd.R_slice HO_376001.out
     (first | subst eo12 | (injection eo12 with f1_ f2_ f3_; have f4_ := f1_.symm; have f5_ := f3_.symm; clear f1_ f2_ f3_; subst f4_; subst f5_))
     obtain ⟨Ao13, co13, eo13⟩ := Kd.R_slice HO380.out
     (first | subst eo13 | (injection eo13 with f1_ f2_ f3_; have f4_ := f1_.symm; have f5_ := f3_.symm; clear f1_ f2_ f3_; subst f4_; subst f5_))
     refine hK.out _ _ ⟨(blk_cell BK375.out 0).trans rfl, (blk_cell BK375.out 1).trans rfl, (blk_cell BK375.out 2).trans rfl, ((HB.out.cell (World.block_lt_of_cell? w _ hw376_0)).trans hw376_0)⟩ (fun hHeld => ?_)
     clear hK K
     refine norm_ (a' := ?_) ?_ ?_
     rotate_left
     ·show Act.put _ (some 17) _ = _
      simp only [Act.put, List.setIfInBounds_toArray, List.set_cons_zero, List.set_cons_succ, i64_w, i32_w]
      rfl
     refine one_ (i := 6) (N := some 18) #[true, true, true, true, true, true, true, false] rfl rfl (one_of HT_.out (by kernel_rfl)) (by decide) (fun K hK => ?_)
     refine goes_ Tryz.func25 (by kernel_rfl) rfl #[.agg #[.bool x376000_1, .slice Ao12 x376001_1.length co12, .int .i64 x376002_1], .agg #[.bool t377, .slice Ao13 t378.length co13, .int .i64 t381]] (by rfl) rfl rfl eqA ?_
     with_reducible refine (cuspref02_Plus.calls x376000_1 _ _ x376001_1 x376002_1 t377 _ _ t378 t381 t382 t383 t386 _ ?side1 ?side2 ?side3 ?side4 A9.out).mono ?_
     (case side1 => repeat (first | exact (Kd.R_reads' HO_376001.out).2.2 | (with_reducible refine Kd.C_alloc ?_ _) | (with_reducible refine Kd.C_drewN ?_ _) | (with_reducible refine Kd.C_drew ?_)))
     (case side2 => exact (Kd.R_reads' HO_376001.out).2.1)
     (case side3 => repeat (first | exact (Kd.R_reads' HO380.out).2.2 | (with_reducible refine Kd.C_alloc ?_ _) | (with_reducible refine Kd.C_drewN ?_ _) | (with_reducible refine Kd.C_drew ?_)))
     (case side4 => exact (Kd.R_reads' HO380.out).2.1)
     rintro e w14 ⟨v384, rfl, ho0, hb⟩
     refine ⟨_, rfl, ?_⟩
     have n0_ := Aside0.mk (Kd.R_elder' (rUp HO_376001.out) (Kd.R_base ho0) hb)
     have n1_ := Aside0.mk (Kd.R_elder' (rUp HO380.out) (Kd.R_base ho0) hb)
     have n2_ := Aside0.mk (Kd.R_lower (Kd.R_new' (Kd.R_new' ho0 (Kd.R_lt (rUp HO_376001.out))) (Kd.R_lt (rUp HO380.out))) (below_size (by repeat (first | (with_reducible first | exact HB.out | apply below_alloc | apply pw_below_drewN | apply below_drew1 | refine below_set ?_ GE374.out | refine below_set ?_ GE375.out) | exact HB.out))))
     have n3_ := Aside0.mk (blk_below (g := gb374) (o := .cells #[.bool false, .slice none 0 0, .int .i64 0] 41 (0, 0)) (blkU BK374.out) hb)
     have n4_ := Aside0.mk (blk_below (g := gb375) (o := .cells #[.bool x376000_1, .slice Ao12 x376001_1.length co12, .int .i64 x376002_1] 41 (0, 0)) (blkU BK375.out) hb)
     have n5_ := Aside0.mk (below_step (by repeat (first | (with_reducible first | exact HB.out | apply below_alloc | apply pw_below_drewN | apply below_drew1 | refine below_set ?_ GE374.out | refine below_set ?_ GE375.out) | exact HB.out)) hb)
     clear HO_376001
     clear HO380
     clear BK374
     clear BK375
     clear HB
     have HO_376001 := n0_
     have HO380 := n1_
     have HO385 := n2_
     have BK374 := n3_
     have BK375 := n4_
     have HB := n5_
     clear n0_ n1_ n2_ n3_ n4_ n5_
     (try clear hb)
     (try clear hb2)
     (try clear hk)
     (try clear hi)
     (try clear ho0)
     obtain ⟨Ao16, co16, eo16⟩ := Kd.R_slice HO385.out
     (first | subst eo16 | (injection eo16 with f1_ f2_ f3_; have f4_ := f1_.symm; have f5_ := f3_.symm; clear f1_ f2_ f3_; subst f4_; subst f5_))
     refine hK.out _ _ ⟨(blk_cell BK375.out 0).trans rfl, (blk_cell BK375.out 1).trans rfl, (blk_cell BK375.out 2).trans rfl, ((HB.out.cell (World.block_lt_of_cell? w _ hw376_0)).trans hw376_0)⟩ (fun hHeld => ?_)
     clear hK K
     refine norm_ (a' := ?_) ?_ ?_
     rotate_left
     ·show Act.put _ (some 18) _ = _
      simp only [Act.put, List.setIfInBounds_toArray, List.set_cons_zero, List.set_cons_succ, i64_w, i32_w]
      rfl
     refine last_ (i := 7) (N := none) #[true, true, true, true, true, true, true, true] rfl rfl (one_of HT_.out (by kernel_rfl)) (by decide) (fun K hK => ?_)
     have hs15 : w14.cell? ⟨gb375, 0, none⟩ = some (.bool x376000_1) := (blk_cell BK375.out 0).trans rfl
     have hfs15 := blk_frozen BK375.out 0
     have hns15_0 := NB374_375.out
     have hms15_0 := NB375_374.out
     have hs17 : w14.cell? ⟨gb375, 1, none⟩ = some (.slice Ao12 x376001_1.length co12) := (blk_cell BK375.out 1).trans rfl
     have hfs17 := blk_frozen BK375.out 1
     have hns17_0 := NB374_375.out
     have hms17_0 := NB375_374.out
     have hs18 : w14.cell? ⟨gb375, 2, none⟩ = some (.int .i64 x376002_1) := (blk_cell BK375.out 2).trans rfl
     have hfs18 := blk_frozen BK375.out 2
     have hns18_0 := NB374_375.out
     have hms18_0 := NB375_374.out
     refine skip_ (w1 := ?_) (by rfl) rfl ?_ ?_
     rotate_left
     ·go_simp
      rfl
     refine hK.out _ _ ?_
     clear hK K
     refine done_ (done_of HT_.out (by kernel_rfl)) ?_
     try go_wp2
     go_roundg k1
     case measure => have := HK1.out; omega
     case rel => exact ⟨(wrap64 (x4_1 + 1)), (t382), (t383), (t386), (.slice Ao16 t383.length co16), (by first | rfl | (simp; done) | (simp [*]; done)), H', ⟨by have := HK1.out; omega⟩, ⟨by (with_reducible repeat (first | apply Kd.R_alloc | apply Kd.R_drewN | apply Kd.R_drew)); exact Kd.R_mono (Kd.R_far (p := ⟨gb375, 2, none⟩) (Kd.R_far (p := ⟨gb375, 1, none⟩) (Kd.R_far (p := ⟨gb375, 0, none⟩) (Kd.R_types HO385.out BK375.out (by decide)) (fun _ hk => hk.2) (.bool t382)) (fun _ hk => hk.2) (.slice Ao16 t383.length co16)) (fun _ hk => hk.2) (.int .i64 t386)) (fun _ hk => trivial)⟩, ⟨by (with_reducible repeat (first | refine blk_drewN ?_ _ | refine blk_drew ?_ | refine blk_alloc ?_ _)); refine blk_far ?_ NB374_375.out _; (with_reducible repeat (first | refine blk_drewN ?_ _ | refine blk_drew ?_ | refine blk_alloc ?_ _)); refine blk_far ?_ NB374_375.out _; (with_reducible repeat (first | refine blk_drewN ?_ _ | refine blk_drew ?_ | refine blk_alloc ?_ _)); refine blk_far ?_ NB374_375.out _; (with_reducible repeat (first | refine blk_drewN ?_ _ | refine blk_drew ?_ | refine blk_alloc ?_ _)); exact BK374.out⟩, ⟨by (with_reducible repeat (first | refine blk_drewN ?_ _ | refine blk_drew ?_ | refine blk_alloc ?_ _)); refine blk_put (cs := #[.bool t382, .slice Ao16 t383.length co16, .int .i64 x376002_1]) ?_ 2 _ rfl; (with_reducible repeat (first | refine blk_drewN ?_ _ | refine blk_drew ?_ | refine blk_alloc ?_ _)); refine blk_put (cs := #[.bool t382, .slice Ao12 x376001_1.length co12, .int .i64 x376002_1]) ?_ 1 _ rfl; (with_reducible repeat (first | refine blk_drewN ?_ _ | refine blk_drew ?_ | refine blk_alloc ?_ _)); refine blk_put (cs := #[.bool x376000_1, .slice Ao12 x376001_1.length co12, .int .i64 x376002_1]) ?_ 0 _ rfl; (with_reducible repeat (first | refine blk_drewN ?_ _ | refine blk_drew ?_ | refine blk_alloc ?_ _)); exact BK375.out⟩, ⟨by repeat (first | (with_reducible first | exact HB.out | apply below_alloc | apply pw_below_drewN | apply below_drew1 | refine below_set ?_ GE374.out | refine below_set ?_ GE375.out) | exact HB.out)⟩⟩
    ·rw [if_neg c7] at H
     exact absurd H (by simp)
   ·rw [if_neg c6] at H
    have c6b0 : decide (x4_1 < (l0.length : Int)) = false := decide_eq_false c6
    clear c6
    simp only [Option.some.injEq, Prod.mk.injEq] at H
    obtain ⟨rfl, rfl, rfl⟩ := H
    have hnb19 := NB375_374.out
    have hnc19 := NB374_375.out
    have hcz20_0 : wr.cell? ⟨gb375, 0, none⟩ = some (.bool x376000_1) := (blk_cell BK375.out 0).trans rfl
    have hcz20_1 : wr.cell? ⟨gb375, 1, none⟩ = some (u376001) := (blk_cell BK375.out 1).trans rfl
    have hcz20_2 : wr.cell? ⟨gb375, 2, none⟩ = some (.int .i64 x376002_1) := (blk_cell BK375.out 2).trans rfl
    have hfz20_0 := blk_frozen BK375.out 0
    have hfz20_1 := blk_frozen BK375.out 1
    have hfz20_2 := blk_frozen BK375.out 2
    have hcz21_0 : wr.cell? ⟨gb374, 0, none⟩ = some (.bool false) := (blk_cell BK374.out 0).trans rfl
    have hcz21_1 : wr.cell? ⟨gb374, 1, none⟩ = some (.slice none 0 0) := (blk_cell BK374.out 1).trans rfl
    have hcz21_2 : wr.cell? ⟨gb374, 2, none⟩ = some (.int .i64 0) := (blk_cell BK374.out 2).trans rfl
    have hfz21_0 := blk_frozen BK374.out 0
    have hfz21_1 := blk_frozen BK374.out 1
    have hfz21_2 := blk_frozen BK374.out 2
    obtain ⟨Ao22, co22, eo22⟩ := Kd.R_slice HO_376001.out
    subst eo22
    go_wp2
    refine bodyPost_ret (results_cell_row rfl _ _ gb374 41 #[.bool x376000_1, .slice Ao22 x376001_1.length co22, .int .i64 x376002_1] (0, 0) _ rfl (by (with_reducible repeat (first | refine blk_drewN ?_ _ | refine blk_drew ?_ | refine blk_alloc ?_ _)); refine blk_put (cs := #[.bool x376000_1, .slice Ao22 x376001_1.length co22, .int .i64 0]) ?_ 2 _ rfl; (with_reducible repeat (first | refine blk_drewN ?_ _ | refine blk_drew ?_ | refine blk_alloc ?_ _)); refine blk_put (cs := #[.bool x376000_1, .slice none 0 0, .int .i64 0]) ?_ 1 _ rfl; (with_reducible repeat (first | refine blk_drewN ?_ _ | refine blk_drew ?_ | refine blk_alloc ?_ _)); refine blk_put (cs := #[.bool false, .slice none 0 0, .int .i64 0]) ?_ 0 _ rfl; (with_reducible repeat (first | refine blk_drewN ?_ _ | refine blk_drew ?_ | refine blk_alloc ?_ _)); exact BK374.out) Tryz.underlying41 rfl (by kernel_rfl)) rfl ?_
    exact ⟨_, by first | rfl | (simp [errW_none, errW_some] <;> rfl) | (simp [*, errW_none, errW_some] <;> rfl), by (with_reducible repeat (first | apply Kd.R_alloc | apply Kd.R_drewN | apply Kd.R_drew)); exact Kd.R_mono (Kd.R_far (p := ⟨gb374, 2, none⟩) (Kd.R_far (p := ⟨gb374, 1, none⟩) (Kd.R_far (p := ⟨gb374, 0, none⟩) (Kd.R_types HO_376001.out BK374.out (by decide)) (fun _ hk => hk.2) (.bool x376000_1)) (fun _ hk => hk.2) (.slice Ao22 x376001_1.length co22)) (fun _ hk => hk.2) (.int .i64 x376002_1)) (fun _ hk => trivial), by repeat (first | (with_reducible first | exact HB.out | apply below_alloc | apply pw_below_drewN | apply below_drew1 | refine below_set ?_ GE374.out | refine below_set ?_ GE375.out) | exact HB.out)⟩
def cuspref01_Of.f (a0 : Int) : Option (Nat) := some ((a0 : Int).toNat)
set_option maxHeartbeats 8000000 in
set_option maxRecDepth 100000 in
theorem cuspref01_Of.calls (a0 : Int) (r : Nat) (w : World) (h : cuspref01_Of.f a0 = some r) :
  Calls Tryz.prog 72 #[.int .u64 a0] w fun e w' => e = .returned (.float .f64 r) ∧ Drawn0 w w' := by
 have H : (some ((a0 : Int).toNat)) = some r := h
 clear h
 obtain rfl := Option.some.inj H
 go_enter Tryz.func72, Tryz.ntmps72
 go_wp2
 go_ret
 exact ⟨by first | rfl | (simp; done) | (simp [*]; done), by repeat (first | exact Drawn0.refl _ | apply Drawn0.step)⟩
def cuspref01_Nought.f (a0 : Bool) : Option (Nat) := if a0 = true then ((cuspref01_Of.f 9223372036854775808).bind fun t387 => (some t387)) else ((cuspref01_Of.f 0).bind fun t388 => (some t388))
set_option maxHeartbeats 8000000 in
set_option maxRecDepth 100000 in
theorem cuspref01_Nought.calls (a0 : Bool) (r : Nat) (w : World) (h : cuspref01_Nought.f a0 = some r) :
  Calls Tryz.prog 61 #[.bool a0] w fun e w' => e = .returned (.float .f64 r) ∧ Drawn0 w w' := by
 have H : (if a0 = true then ((cuspref01_Of.f 9223372036854775808).bind fun t387 => (some t387)) else ((cuspref01_Of.f 0).bind fun t388 => (some t388))) = some r := h
 clear h
 by_cases c2 : a0 = true
 ·subst c2
  have H1 : ((cuspref01_Of.f 9223372036854775808).bind fun t387 => (some t387)) = some r := by rw [if_pos rfl] at H; exact H
  clear H
  have H := H1
  clear H1
  replace H := Option.bind_eq_some_iff.mp H
  obtain ⟨t387, A30, H⟩ := H
  replace H : (some t387) = some r := H
  have A3 := Aside0.mk A30
  clear A30
  obtain rfl := Option.some.inj H
  go_enter Tryz.func61, Tryz.ntmps61
  go_wp2_with (first | ((with_reducible refine gate_callee (f := 72) rfl ?_); refine goesL_ (some 4) rfl rfl Tryz.func72 (by kernel_rfl) rfl #[.int .u64 9223372036854775808] rfl eqA ?_; (with_reducible refine (cuspref01_Of.calls 9223372036854775808 t387 _ A3.out).mono ?_); rintro e w' ⟨rfl, ⟨nd, rfl⟩⟩; refine ⟨_, rfl, ?_⟩))
  go_ret
  exact ⟨by first | rfl | (simp; done) | (simp [*]; done), by repeat (first | exact Drawn0.refl _ | apply Drawn0.step)⟩
 ·replace c2 := Bool.eq_false_iff.mpr c2
  subst c2
  have H1 : ((cuspref01_Of.f 0).bind fun t388 => (some t388)) = some r := by rw [if_neg (show ¬ (false = true) by decide)] at H; exact H
  clear H
  have H := H1
  clear H1
  replace H := Option.bind_eq_some_iff.mp H
  obtain ⟨t388, A40, H⟩ := H
  replace H : (some t388) = some r := H
  have A4 := Aside0.mk A40
  clear A40
  obtain rfl := Option.some.inj H
  go_enter Tryz.func61, Tryz.ntmps61
  go_wp2_with (first | ((with_reducible refine gate_callee (f := 72) rfl ?_); refine goesL_ (some 5) rfl rfl Tryz.func72 (by kernel_rfl) rfl #[.int .u64 0] rfl eqA ?_; (with_reducible refine (cuspref01_Of.calls 0 t388 _ A4.out).mono ?_); rintro e w' ⟨rfl, ⟨nd, rfl⟩⟩; refine ⟨_, rfl, ?_⟩))
  go_ret
  exact ⟨by first | rfl | (simp; done) | (simp [*]; done), by repeat (first | exact Drawn0.refl _ | apply Drawn0.step)⟩
def cuspref05_Exact.l0 : Nat → List Nat → Int → Bool → Int → Option (Nat × Int)
 | 0, _, _, _, _ => none
 | k + 1, x0, x1, x7, x8 => if x8 < (x0.length : Int) then (if x7 = true then (if 0 ≤ x8 then ((cuspref01_IsZero.f (rdOf (0 : Nat) x0 x8)).bind fun t392 => (if t392 = true then ((cuspref01_Neg.f (rdOf (0 : Nat) x0 x8)).bind fun t394 => (cuspref05_Exact.l0 k x0 x1 t394 (wrap64 (x8 + 1)))) else (cuspref05_Exact.l0 k x0 x1 false (wrap64 (x8 + 1))))) else (none)) else (cuspref05_Exact.l0 k x0 x1 false (wrap64 (x8 + 1)))) else ((cuspref05_Total.f k x0).bind fun bt395 => ((cuspref01_Nought.f x7).bind fun t400 => ((cuspref03_R.f bt395.1 bt395.2.1 bt395.2.2 x1 t400).bind fun t401 => (some (t401, 0)))))
def cuspref05_Exact.f (k : Nat) (l0 : List Nat) (a1 : Int) : Option (Nat × Int) := (cuspref03_Valid.f a1).bind fun t389 => (if t389 = 0 then ((cuspref05_Fault.f k l0).bind fun t390 => (if t390 = 0 then (cuspref05_Exact.l0 k l0 a1 (decide ((l0.length : Int) > 0)) 0) else (some ((0 : Nat), t390)))) else (some ((0 : Nat), 1)))
set_option maxHeartbeats 8000000 in
set_option maxRecDepth 100000 in
theorem cuspref05_Exact.calls (k : Nat) (A0 : Option Addr) (c0 : Nat) (l0 : List Nat) (a1 : Int) (r1 : Nat) (r2 : Int) (w : World) (hr0 : Kd.C Kd.float w A0 l0.length l0) (hc0 : l0.length ≤ c0) (h : cuspref05_Exact.f k l0 a1 = some (r1, r2)) :
  Calls Tryz.prog 23 #[.slice A0 l0.length c0, .int .i64 a1] w fun e w' => e = .returned (.tuple #[.float .f64 r1, .int .i64 r2]) ∧ Below w.heap.size w w' := by
 have HR0 := Aside0.mk hr0
 have HC0 := Aside0.mk hc0
 clear hr0 hc0
 have HB := Aside0.mk (Below.refl w.heap.size w)
 have H : ((cuspref03_Valid.f a1).bind fun t389 => (if t389 = 0 then ((cuspref05_Fault.f k l0).bind fun t390 => (if t390 = 0 then (cuspref05_Exact.l0 k l0 a1 (decide ((l0.length : Int) > 0)) 0) else (some ((0 : Nat), t390)))) else (some ((0 : Nat), 1)))) = some (r1, r2) := h
 clear h
 replace H := Option.bind_eq_some_iff.mp H
 obtain ⟨t389, A30, H⟩ := H
 replace H : (if t389 = 0 then ((cuspref05_Fault.f k l0).bind fun t390 => (if t390 = 0 then (cuspref05_Exact.l0 k l0 a1 (decide ((l0.length : Int) > 0)) 0) else (some ((0 : Nat), t390)))) else (some ((0 : Nat), 1))) = some (r1, r2) := H
 have A3 := Aside0.mk A30
 clear A30
 by_cases c4 : t389 = 0
 ·rw [if_pos c4] at H
  have c4b0 : (t389 == 0) = true := beq_iff_eq.mpr c4
  have c4b1 : (t389 != 0) = false := bne_eq_false_iff_eq.mpr c4
  clear c4
  replace H := Option.bind_eq_some_iff.mp H
  obtain ⟨t390, A50, H⟩ := H
  replace H : (if t390 = 0 then (cuspref05_Exact.l0 k l0 a1 (decide ((l0.length : Int) > 0)) 0) else (some ((0 : Nat), t390))) = some (r1, r2) := H
  have A5 := Aside0.mk A50
  clear A50
  by_cases c6 : t390 = 0
  ·rw [if_pos c6] at H
   have c6b0 : (t390 == 0) = true := beq_iff_eq.mpr c6
   have c6b1 : (t390 != 0) = false := bne_eq_false_iff_eq.mpr c6
   clear c6
   have H' := Aside0.mk H
   clear H
   go_enter Tryz.func23, Tryz.ntmps23
   go_wp2_with (first | ((with_reducible refine gate_callee (f := 56) rfl ?_); refine goesL_ (some 10) rfl rfl Tryz.func56 (by kernel_rfl) rfl #[.int .i64 a1] rfl eqA ?_; (with_reducible refine (cuspref03_Valid.calls a1 t389 _ A3.out).mono ?_); rintro e w' ⟨rfl, ⟨nd, rfl⟩⟩; refine ⟨_, rfl, ?_⟩) | ((with_reducible refine gate_callee (f := 57) rfl ?_); refine goesL_ (some 13) rfl rfl Tryz.func57 (by kernel_rfl) rfl #[.slice A0 l0.length c0] rfl eqA ?_; (with_reducible refine (cuspref05_Fault.calls k _ _ l0 t390 _ ?side1 ?side2 A5.out).mono ?_); (case side1 => repeat (first | exact HR0.out | (with_reducible refine Kd.C_alloc ?_ _) | (with_reducible refine Kd.C_drewN ?_ _) | (with_reducible refine Kd.C_drew ?_))); (case side2 => exact HC0.out); rintro e w' ⟨rfl, ⟨nd, rfl⟩⟩; refine ⟨_, rfl, ?_⟩))
   go_loopg [7, 8] k (fun kq v7 v8 w' => ∃ (x7_1 : Bool) (x8_1 : Int), v7 = .bool x7_1 ∧ v8 = .int .i64 x8_1 ∧ Aside0 (cuspref05_Exact.l0 kq l0 a1 x7_1 x8_1 = some (r1, r2)) ∧ Aside0 (kq ≤ k) ∧ Aside0 (Below w.heap.size w w'))
   case atStart => exact ⟨(decide ((l0.length : Int) > 0)), (0), (by first | rfl | (simp; done) | (simp [*]; done)), (by first | rfl | (simp; done) | (simp [*]; done)), H', ⟨Nat.le_refl _⟩, ⟨hbw⟩⟩
   case round =>
    clear H'
    try clear c2
    try clear p2
    try clear c4
    try clear c4b0
    try clear c4b1
    try clear c5
    try clear c6
    try clear c6b0
    try clear c6b1
    obtain ⟨x7_1, x8_1, rfl, rfl, HA, HK1, HB⟩ := hrel
    cases gk with
    | zero => exact absurd HA.out (by simp [cuspref05_Exact.l0])
    | succ k1 =>
     have H := HA.out
     clear HA
     simp only [cuspref05_Exact.l0] at H
     by_cases c7 : x8_1 < (l0.length : Int)
     ·rw [if_pos c7] at H
      have c7b0 : decide (x8_1 < (l0.length : Int)) = true := decide_eq_true c7
      clear c7
      by_cases c8 : x7_1 = true
      ·subst c8
       have H1 : (if 0 ≤ x8_1 then ((cuspref01_IsZero.f (rdOf (0 : Nat) l0 x8_1)).bind fun t392 => (if t392 = true then ((cuspref01_Neg.f (rdOf (0 : Nat) l0 x8_1)).bind fun t394 => (cuspref05_Exact.l0 k1 l0 a1 t394 (wrap64 (x8_1 + 1)))) else (cuspref05_Exact.l0 k1 l0 a1 false (wrap64 (x8_1 + 1))))) else (none)) = some (r1, r2) := by rw [if_pos rfl] at H; exact H
       clear H
       have H := H1
       clear H1
       by_cases c9 : 0 ≤ x8_1
       ·rw [if_pos c9] at H
        have c9b0 : decide (0 ≤ x8_1) = true := decide_eq_true c9
        clear c9
        replace H := Option.bind_eq_some_iff.mp H
        obtain ⟨t392, A100, H⟩ := H
        replace H : (if t392 = true then ((cuspref01_Neg.f (rdOf (0 : Nat) l0 x8_1)).bind fun t394 => (cuspref05_Exact.l0 k1 l0 a1 t394 (wrap64 (x8_1 + 1)))) else (cuspref05_Exact.l0 k1 l0 a1 false (wrap64 (x8_1 + 1)))) = some (r1, r2) := H
        have A10 := Aside0.mk A100
        clear A100
        by_cases c11 : t392 = true
        ·subst c11
         have H1 : ((cuspref01_Neg.f (rdOf (0 : Nat) l0 x8_1)).bind fun t394 => (cuspref05_Exact.l0 k1 l0 a1 t394 (wrap64 (x8_1 + 1)))) = some (r1, r2) := by rw [if_pos rfl] at H; exact H
         clear H
         have H := H1
         clear H1
         replace H := Option.bind_eq_some_iff.mp H
         obtain ⟨t394, A120, H⟩ := H
         replace H : (cuspref05_Exact.l0 k1 l0 a1 t394 (wrap64 (x8_1 + 1))) = some (r1, r2) := H
         have A12 := Aside0.mk A120
         clear A120
         have H' := Aside0.mk H
         clear H
         have p391 : 0 ≤ (x8_1 : Int) := of_decide_eq_true (by first | (with_reducible assumption) | assumption)
         have q391 : x8_1 < (l0.length : Int) := of_decide_eq_true (by first | (with_reducible assumption) | assumption)
         obtain ⟨ad391, e391, hx391_0⟩ := Kd.at_float HR0.out x8_1 p391 q391
         cases e391
         replace hx391_0 := (HB.out.cell (World.block_lt_of_cell? w _ hx391_0)).trans hx391_0
         replace p391 := eq_true p391
         replace q391 := eq_true q391
         go_wp2_with (first | (go_at_call 58; (with_reducible refine (cuspref01_IsZero.calls (rdOf (0 : Nat) l0 x8_1) true _ A10.out).mono ?_); rintro e w' ⟨rfl, ⟨nd, rfl⟩⟩; have p393 : 0 ≤ (x8_1 : Int) := of_decide_eq_true (by first | (with_reducible assumption) | assumption); have q393 : x8_1 < (l0.length : Int) := of_decide_eq_true (by first | (with_reducible assumption) | assumption); obtain ⟨ad393, e393, hx393_0⟩ := Kd.at_float HR0.out x8_1 p393 q393; obtain rfl : ad391 = ad393 := (by injection e393); replace hx393_0 := (HB.out.cell (World.block_lt_of_cell? w _ hx393_0)).trans hx393_0; replace p393 := eq_true p393; replace q393 := eq_true q393) | (go_at_call 59; (with_reducible refine (cuspref01_Neg.calls (rdOf (0 : Nat) l0 x8_1) t394 _ A12.out).mono ?_); rintro e w' ⟨rfl, ⟨nd, rfl⟩⟩))
         go_roundg k1
         case measure => have := HK1.out; omega
         case rel => exact ⟨(t394), (wrap64 (x8_1 + 1)), (by first | rfl | (simp; done) | (simp [*]; done)), (by first | rfl | (simp; done) | (simp [*]; done)), H', ⟨by have := HK1.out; omega⟩, ⟨hbw⟩⟩
        ·replace c11 := Bool.eq_false_iff.mpr c11
         subst c11
         have H1 : (cuspref05_Exact.l0 k1 l0 a1 false (wrap64 (x8_1 + 1))) = some (r1, r2) := by rw [if_neg (show ¬ (false = true) by decide)] at H; exact H
         clear H
         have H := H1
         clear H1
         have H' := Aside0.mk H
         clear H
         have p391 : 0 ≤ (x8_1 : Int) := of_decide_eq_true (by first | (with_reducible assumption) | assumption)
         have q391 : x8_1 < (l0.length : Int) := of_decide_eq_true (by first | (with_reducible assumption) | assumption)
         obtain ⟨ad391, e391, hx391_0⟩ := Kd.at_float HR0.out x8_1 p391 q391
         cases e391
         replace hx391_0 := (HB.out.cell (World.block_lt_of_cell? w _ hx391_0)).trans hx391_0
         replace p391 := eq_true p391
         replace q391 := eq_true q391
         go_wp2_with (first | (go_at_call 58; (with_reducible refine (cuspref01_IsZero.calls (rdOf (0 : Nat) l0 x8_1) false _ A10.out).mono ?_); rintro e w' ⟨rfl, ⟨nd, rfl⟩⟩))
         go_roundg k1
         case measure => have := HK1.out; omega
         case rel => exact ⟨(false), (wrap64 (x8_1 + 1)), (by first | rfl | (simp; done) | (simp [*]; done)), (by first | rfl | (simp; done) | (simp [*]; done)), H', ⟨by have := HK1.out; omega⟩, ⟨hbw⟩⟩
       ·rw [if_neg c9] at H
        exact absurd H (by simp)
      ·replace c8 := Bool.eq_false_iff.mpr c8
       subst c8
       have H1 : (cuspref05_Exact.l0 k1 l0 a1 false (wrap64 (x8_1 + 1))) = some (r1, r2) := by rw [if_neg (show ¬ (false = true) by decide)] at H; exact H
       clear H
       have H := H1
       clear H1
       have H' := Aside0.mk H
       clear H
       go_wp2
       go_roundg k1
       case measure => have := HK1.out; omega
       case rel => exact ⟨(false), (wrap64 (x8_1 + 1)), (by first | rfl | (simp; done) | (simp [*]; done)), (by first | rfl | (simp; done) | (simp [*]; done)), H', ⟨by have := HK1.out; omega⟩, ⟨hbw⟩⟩
     ·rw [if_neg c7] at H
      have c7b0 : decide (x8_1 < (l0.length : Int)) = false := decide_eq_false c7
      clear c7
      replace H := Option.bind_eq_some_iff.mp H
      obtain ⟨⟨t395, t396, t399⟩, A130, H⟩ := H
      replace H : ((cuspref01_Nought.f x7_1).bind fun t400 => ((cuspref03_R.f t395 t396 t399 a1 t400).bind fun t401 => (some (t401, 0)))) = some (r1, r2) := H
      have A13 := Aside0.mk A130
      clear A130
      replace H := Option.bind_eq_some_iff.mp H
      obtain ⟨t400, A140, H⟩ := H
      replace H : ((cuspref03_R.f t395 t396 t399 a1 t400).bind fun t401 => (some (t401, 0))) = some (r1, r2) := H
      have A14 := Aside0.mk A140
      clear A140
      replace H := Option.bind_eq_some_iff.mp H
      obtain ⟨t401, A150, H⟩ := H
      replace H : (some (t401, 0)) = some (r1, r2) := H
      have A15 := Aside0.mk A150
      clear A150
      simp only [Option.some.injEq, Prod.mk.injEq] at H
      obtain ⟨rfl, rfl⟩ := H
      go_wp2_with (first | ((with_reducible refine gate_callee (f := 60) rfl ?_); refine goesL_ (some 42) rfl rfl Tryz.func60 (by kernel_rfl) rfl #[.slice A0 l0.length c0] rfl eqA ?_; (with_reducible refine (cuspref05_Total.calls k1 _ _ l0 t395 t396 t399 _ ?side1 ?side2 A13.out).mono ?_); (case side1 => repeat (first | exact (Kd.C_below HR0.out HB.out) | (with_reducible refine Kd.C_alloc ?_ _) | (with_reducible refine Kd.C_drewN ?_ _) | (with_reducible refine Kd.C_drew ?_))); (case side2 => exact HC0.out); rintro e w16 ⟨v397, rfl, ho0, hb⟩; refine ⟨_, rfl, ?_⟩; have n0_ := Aside0.mk (Kd.R_lower ho0 (below_size hbw)); have n1_ := Aside0.mk (below_step hbw hb); clear HB; have HO398 := n0_; have HB := n1_; clear n0_ n1_; (try clear hb); (try clear hb2); (try clear hk); (try clear hi); (try clear ho0)) | ((with_reducible refine gate_callee (f := 61) rfl ?_); refine goesL_ (some 45) rfl rfl Tryz.func61 (by kernel_rfl) rfl #[.bool x7_1] rfl eqA ?_; (with_reducible refine (cuspref01_Nought.calls x7_1 t400 _ A14.out).mono ?_); rintro e w' ⟨rfl, ⟨nd, rfl⟩⟩; refine ⟨_, rfl, ?_⟩; obtain ⟨Ao17, co17, eo17⟩ := Kd.R_slice HO398.out; subst eo17) | ((with_reducible refine gate_callee (f := 48) rfl ?_); refine goesL_ (some 46) rfl rfl Tryz.func48 (by kernel_rfl) rfl #[.agg #[.bool t395, .slice Ao17 t396.length co17, .int .i64 t399], .int .i64 a1, .float .f64 t400] rfl eqA ?_; (with_reducible refine (cuspref03_R.calls t395 _ _ t396 t399 a1 t400 t401 _ ?side1 ?side2 A15.out).mono ?_); (case side1 => repeat (first | exact (Kd.R_reads' HO398.out).2.2 | (with_reducible refine Kd.C_alloc ?_ _) | (with_reducible refine Kd.C_drewN ?_ _) | (with_reducible refine Kd.C_drew ?_))); (case side2 => exact (Kd.R_reads' HO398.out).2.1); rintro e w18 ⟨rfl, hb⟩; refine ⟨_, rfl, ?_⟩; have n0_ := Aside0.mk (Kd.R_below (rUp HO398.out) hb); have n1_ := Aside0.mk (below_step hbw hb); clear HO398; clear HB; have HO398 := n0_; have HB := n1_; clear n0_ n1_; (try clear hb); (try clear hb2); (try clear hk); (try clear hi)))
      go_ret2
      exact ⟨by first | rfl | (simp [errW_none, errW_some] <;> rfl) | (simp [*, errW_none, errW_some] <;> rfl), hbw⟩
  ·rw [if_neg c6] at H
   have c6b0 : (t390 == 0) = false := beq_eq_false_iff_ne.mpr c6
   have c6b1 : (t390 != 0) = true := bne_iff_ne.mpr c6
   simp only [Option.some.injEq, Prod.mk.injEq] at H
   obtain ⟨rfl, rfl⟩ := H
   go_enter Tryz.func23, Tryz.ntmps23
   go_wp2_with (first | ((with_reducible refine gate_callee (f := 56) rfl ?_); refine goesL_ (some 10) rfl rfl Tryz.func56 (by kernel_rfl) rfl #[.int .i64 a1] rfl eqA ?_; (with_reducible refine (cuspref03_Valid.calls a1 t389 _ A3.out).mono ?_); rintro e w' ⟨rfl, ⟨nd, rfl⟩⟩; refine ⟨_, rfl, ?_⟩) | ((with_reducible refine gate_callee (f := 57) rfl ?_); refine goesL_ (some 13) rfl rfl Tryz.func57 (by kernel_rfl) rfl #[.slice A0 l0.length c0] rfl eqA ?_; (with_reducible refine (cuspref05_Fault.calls k _ _ l0 t390 _ ?side1 ?side2 A5.out).mono ?_); (case side1 => repeat (first | exact HR0.out | (with_reducible refine Kd.C_alloc ?_ _) | (with_reducible refine Kd.C_drewN ?_ _) | (with_reducible refine Kd.C_drew ?_))); (case side2 => exact HC0.out); rintro e w' ⟨rfl, ⟨nd, rfl⟩⟩; refine ⟨_, rfl, ?_⟩))
   go_ret2
   exact ⟨by first | rfl | (simp [errW_none, errW_some] <;> rfl) | (simp [*, errW_none, errW_some] <;> rfl), hbw⟩
 ·rw [if_neg c4] at H
  have c4b0 : (t389 == 0) = false := beq_eq_false_iff_ne.mpr c4
  have c4b1 : (t389 != 0) = true := bne_iff_ne.mpr c4
  simp only [Option.some.injEq, Prod.mk.injEq] at H
  obtain ⟨rfl, rfl⟩ := H
  go_enter Tryz.func23, Tryz.ntmps23
  go_wp2_with (first | ((with_reducible refine gate_callee (f := 56) rfl ?_); refine goesL_ (some 10) rfl rfl Tryz.func56 (by kernel_rfl) rfl #[.int .i64 a1] rfl eqA ?_; (with_reducible refine (cuspref03_Valid.calls a1 t389 _ A3.out).mono ?_); rintro e w' ⟨rfl, ⟨nd, rfl⟩⟩; refine ⟨_, rfl, ?_⟩))
  go_ret2
  exact ⟨by first | rfl | (simp [errW_none, errW_some] <;> rfl) | (simp [*, errW_none, errW_some] <;> rfl), hbw⟩
def cusplaw05_SumsExact.f (k : Nat) (l0 : List Nat) (a1 : Int) : Option (Bool) := (sums_Exact.f l0 a1).bind fun bt402 => ((cuspref05_Exact.f k l0 a1).bind fun bt404 => ((cusplaw05_same.f bt402.1 bt404.1).bind fun t406 => (if t406 = true then (if bt402.2 = bt404.2 then ((cusplaw05_sure.f).bind fun t407 => (some t407)) else (some false)) else (some false))))
set_option maxHeartbeats 8000000 in
set_option maxRecDepth 100000 in
theorem cusplaw05_SumsExact.calls (k : Nat) (A0 : Option Addr) (c0 : Nat) (l0 : List Nat) (a1 : Int) (r : Bool) (w : World) (hr0 : Kd.C Kd.float w A0 l0.length l0) (hc0 : l0.length ≤ c0) (h : cusplaw05_SumsExact.f k l0 a1 = some r) (hL : Big.Laid w := by exact Big.Laid.step HL.out hbw) :
  Calls Tryz.prog 5 #[.slice A0 l0.length c0, .int .i64 a1] w fun e w' => e = .returned (.bool r) ∧ Below w.heap.size w w' := by
 have HL := Aside0.mk hL
 clear hL
 have HR0 := Aside0.mk hr0
 have HC0 := Aside0.mk hc0
 clear hr0 hc0
 have HB := Aside0.mk (Below.refl w.heap.size w)
 have H : ((sums_Exact.f l0 a1).bind fun bt402 => ((cuspref05_Exact.f k l0 a1).bind fun bt404 => ((cusplaw05_same.f bt402.1 bt404.1).bind fun t406 => (if t406 = true then (if bt402.2 = bt404.2 then ((cusplaw05_sure.f).bind fun t407 => (some t407)) else (some false)) else (some false))))) = some r := h
 clear h
 replace H := Option.bind_eq_some_iff.mp H
 obtain ⟨⟨t402, t403⟩, A30, H⟩ := H
 replace H : ((cuspref05_Exact.f k l0 a1).bind fun bt404 => ((cusplaw05_same.f t402 bt404.1).bind fun t406 => (if t406 = true then (if t403 = bt404.2 then ((cusplaw05_sure.f).bind fun t407 => (some t407)) else (some false)) else (some false)))) = some r := H
 have A3 := Aside0.mk A30
 clear A30
 replace H := Option.bind_eq_some_iff.mp H
 obtain ⟨⟨t404, t405⟩, A40, H⟩ := H
 replace H : ((cusplaw05_same.f t402 t404).bind fun t406 => (if t406 = true then (if t403 = t405 then ((cusplaw05_sure.f).bind fun t407 => (some t407)) else (some false)) else (some false))) = some r := H
 have A4 := Aside0.mk A40
 clear A40
 replace H := Option.bind_eq_some_iff.mp H
 obtain ⟨t406, A50, H⟩ := H
 replace H : (if t406 = true then (if t403 = t405 then ((cusplaw05_sure.f).bind fun t407 => (some t407)) else (some false)) else (some false)) = some r := H
 have A5 := Aside0.mk A50
 clear A50
 by_cases c6 : t406 = true
 ·subst c6
  have H1 : (if t403 = t405 then ((cusplaw05_sure.f).bind fun t407 => (some t407)) else (some false)) = some r := by rw [if_pos rfl] at H; exact H
  clear H
  have H := H1
  clear H1
  by_cases c7 : t403 = t405
  ·rw [if_pos c7] at H
   have c7b0 : (t403 == t405) = true := beq_iff_eq.mpr c7
   have c7b1 : (t403 != t405) = false := bne_eq_false_iff_eq.mpr c7
   clear c7
   replace H := Option.bind_eq_some_iff.mp H
   obtain ⟨t407, A80, H⟩ := H
   replace H : (some t407) = some r := H
   have A8 := Aside0.mk A80
   clear A80
   obtain rfl := Option.some.inj H
   go_enter Tryz.func5, Tryz.ntmps5
   go_wp2_with (first | ((with_reducible refine gate_callee (f := 22) rfl ?_); refine goesL_ (some 12) rfl rfl Tryz.func22 (by kernel_rfl) rfl #[.slice A0 l0.length c0, .int .i64 a1] rfl eqA ?_; (with_reducible refine (sums_Exact.calls _ _ l0 a1 t402 t403 _ ?side1 ?side2 A3.out).mono ?_); (case side1 => repeat (first | exact HR0.out | (with_reducible refine Kd.C_alloc ?_ _) | (with_reducible refine Kd.C_drewN ?_ _) | (with_reducible refine Kd.C_drew ?_))); (case side2 => exact HC0.out); rintro e w9 ⟨rfl, hb⟩; refine ⟨_, rfl, ?_⟩; have n0_ := Aside0.mk (below_step hbw hb); clear HB; have HB := n0_; clear n0_; (try clear hb); (try clear hb2); (try clear hk); (try clear hi)) | ((with_reducible refine gate_callee (f := 23) rfl ?_); refine goesL_ (some 18) rfl rfl Tryz.func23 (by kernel_rfl) rfl #[.slice A0 l0.length c0, .int .i64 a1] rfl eqA ?_; (with_reducible refine (cuspref05_Exact.calls k _ _ l0 a1 t404 t405 _ ?side1 ?side2 A4.out).mono ?_); (case side1 => repeat (first | exact (Kd.C_below HR0.out HB.out) | (with_reducible refine Kd.C_alloc ?_ _) | (with_reducible refine Kd.C_drewN ?_ _) | (with_reducible refine Kd.C_drew ?_))); (case side2 => exact HC0.out); rintro e w10 ⟨rfl, hb⟩; refine ⟨_, rfl, ?_⟩; have n0_ := Aside0.mk (below_step hbw hb); clear HB; have HB := n0_; clear n0_; (try clear hb); (try clear hb2); (try clear hk); (try clear hi)) | ((with_reducible refine gate_callee (f := 11) rfl ?_); refine goesL_ (some 23) rfl rfl Tryz.func11 (by kernel_rfl) rfl #[.float .f64 t402, .float .f64 t404] rfl eqA ?_; (with_reducible refine (cusplaw05_same.calls t402 t404 true _ A5.out).mono ?_); rintro e w' ⟨rfl, ⟨nd, rfl⟩⟩; refine ⟨_, rfl, ?_⟩) | (go_at_call 19; (with_reducible refine (cusplaw05_sure.calls  t407 _ A8.out).mono ?_); rintro e w11 ⟨rfl, hb⟩; have n0_ := Aside0.mk (below_step hbw hb); clear HB; have HB := n0_; clear n0_; (try clear hb); (try clear hb2); (try clear hk); (try clear hi)))
   go_ret
   exact ⟨by first | rfl | (simp [errW_none, errW_some] <;> rfl) | (simp [*, errW_none, errW_some] <;> rfl), hbw⟩
  ·rw [if_neg c7] at H
   have c7b0 : (t403 == t405) = false := beq_eq_false_iff_ne.mpr c7
   have c7b1 : (t403 != t405) = true := bne_iff_ne.mpr c7
   obtain rfl := Option.some.inj H
   go_enter Tryz.func5, Tryz.ntmps5
   go_wp2_with (first | ((with_reducible refine gate_callee (f := 22) rfl ?_); refine goesL_ (some 12) rfl rfl Tryz.func22 (by kernel_rfl) rfl #[.slice A0 l0.length c0, .int .i64 a1] rfl eqA ?_; (with_reducible refine (sums_Exact.calls _ _ l0 a1 t402 t403 _ ?side1 ?side2 A3.out).mono ?_); (case side1 => repeat (first | exact HR0.out | (with_reducible refine Kd.C_alloc ?_ _) | (with_reducible refine Kd.C_drewN ?_ _) | (with_reducible refine Kd.C_drew ?_))); (case side2 => exact HC0.out); rintro e w12 ⟨rfl, hb⟩; refine ⟨_, rfl, ?_⟩; have n0_ := Aside0.mk (below_step hbw hb); clear HB; have HB := n0_; clear n0_; (try clear hb); (try clear hb2); (try clear hk); (try clear hi)) | ((with_reducible refine gate_callee (f := 23) rfl ?_); refine goesL_ (some 18) rfl rfl Tryz.func23 (by kernel_rfl) rfl #[.slice A0 l0.length c0, .int .i64 a1] rfl eqA ?_; (with_reducible refine (cuspref05_Exact.calls k _ _ l0 a1 t404 t405 _ ?side1 ?side2 A4.out).mono ?_); (case side1 => repeat (first | exact (Kd.C_below HR0.out HB.out) | (with_reducible refine Kd.C_alloc ?_ _) | (with_reducible refine Kd.C_drewN ?_ _) | (with_reducible refine Kd.C_drew ?_))); (case side2 => exact HC0.out); rintro e w13 ⟨rfl, hb⟩; refine ⟨_, rfl, ?_⟩; have n0_ := Aside0.mk (below_step hbw hb); clear HB; have HB := n0_; clear n0_; (try clear hb); (try clear hb2); (try clear hk); (try clear hi)) | ((with_reducible refine gate_callee (f := 11) rfl ?_); refine goesL_ (some 23) rfl rfl Tryz.func11 (by kernel_rfl) rfl #[.float .f64 t402, .float .f64 t404] rfl eqA ?_; (with_reducible refine (cusplaw05_same.calls t402 t404 true _ A5.out).mono ?_); rintro e w' ⟨rfl, ⟨nd, rfl⟩⟩; refine ⟨_, rfl, ?_⟩))
   go_ret
   exact ⟨by first | rfl | (simp [errW_none, errW_some] <;> rfl) | (simp [*, errW_none, errW_some] <;> rfl), hbw⟩
 ·replace c6 := Bool.eq_false_iff.mpr c6
  subst c6
  have H1 : (some false) = some r := by rw [if_neg (show ¬ (false = true) by decide)] at H; exact H
  clear H
  have H := H1
  clear H1
  obtain rfl := Option.some.inj H
  go_enter Tryz.func5, Tryz.ntmps5
  go_wp2_with (first | ((with_reducible refine gate_callee (f := 22) rfl ?_); refine goesL_ (some 12) rfl rfl Tryz.func22 (by kernel_rfl) rfl #[.slice A0 l0.length c0, .int .i64 a1] rfl eqA ?_; (with_reducible refine (sums_Exact.calls _ _ l0 a1 t402 t403 _ ?side1 ?side2 A3.out).mono ?_); (case side1 => repeat (first | exact HR0.out | (with_reducible refine Kd.C_alloc ?_ _) | (with_reducible refine Kd.C_drewN ?_ _) | (with_reducible refine Kd.C_drew ?_))); (case side2 => exact HC0.out); rintro e w14 ⟨rfl, hb⟩; refine ⟨_, rfl, ?_⟩; have n0_ := Aside0.mk (below_step hbw hb); clear HB; have HB := n0_; clear n0_; (try clear hb); (try clear hb2); (try clear hk); (try clear hi)) | ((with_reducible refine gate_callee (f := 23) rfl ?_); refine goesL_ (some 18) rfl rfl Tryz.func23 (by kernel_rfl) rfl #[.slice A0 l0.length c0, .int .i64 a1] rfl eqA ?_; (with_reducible refine (cuspref05_Exact.calls k _ _ l0 a1 t404 t405 _ ?side1 ?side2 A4.out).mono ?_); (case side1 => repeat (first | exact (Kd.C_below HR0.out HB.out) | (with_reducible refine Kd.C_alloc ?_ _) | (with_reducible refine Kd.C_drewN ?_ _) | (with_reducible refine Kd.C_drew ?_))); (case side2 => exact HC0.out); rintro e w15 ⟨rfl, hb⟩; refine ⟨_, rfl, ?_⟩; have n0_ := Aside0.mk (below_step hbw hb); clear HB; have HB := n0_; clear n0_; (try clear hb); (try clear hb2); (try clear hk); (try clear hi)) | ((with_reducible refine gate_callee (f := 11) rfl ?_); refine goesL_ (some 23) rfl rfl Tryz.func11 (by kernel_rfl) rfl #[.float .f64 t402, .float .f64 t404] rfl eqA ?_; (with_reducible refine (cusplaw05_same.calls t402 t404 false _ A5.out).mono ?_); rintro e w' ⟨rfl, ⟨nd, rfl⟩⟩; refine ⟨_, rfl, ?_⟩))
  go_ret
  exact ⟨by first | rfl | (simp [errW_none, errW_some] <;> rfl) | (simp [*, errW_none, errW_some] <;> rfl), hbw⟩
end Go.Proofs.YthmeocigliephaaGreatDoor.PSu
end
section
namespace Go.Proofs.YthmeocigliephaaGreatDoor.Big
open Go.RowKit Go.Proofs.YthmeocigliephaaGreatDoorW.PrintWords Go.Proofs.YthmeocigliephaaGreatDoorW.PrintLast Go.Proofs.YthmeocigliephaaGreatDoorW.PrintMore
open Go.Proofs.YthmeocigliephaaGreatDoor.PSu Go.Proofs.YthmeocigliephaaGreatDoor.Plain
theorem sgn_div {b : Nat} (h : b < 18446744073709551616) : (((b : Int) / 9223372036854775808) == 1) = sgn b := by
  unfold sgn
  by_cases h1 : 9223372036854775808 ≤ b
  · rw [decide_eq_true h1]; simp; omega
  · rw [decide_eq_false h1]; simp; omega
def word2 (m : Nat) : List Int := [((m : Nat) : Int) % 4294967296, (((m : Nat) : Int) / 4294967296) % 4294967296]
theorem word2_val {m : Nat} (h : m < 18446744073709551616) : val (word2 m) = m := by unfold word2; simp [val]; omega
theorem word2_dg (m : Nat) : Dg (word2 m) := Dg.cons (by omega) (by omega) (Dg.one (by omega) (by omega))
theorem rfloat_eq {b : Nat} (h : Fin64 b) (k : Nat) : cuspref02_Float.f k b = (cuspref02_norm.f k (sgn b) (word2 (manti b)) (expoV b)).bind fun bt => some (bt.1, bt.2.1, bt.2.2) := by
  have hx := expo_le h
  unfold cuspref02_Float.f
  rw [bits_frac b h.1, bits_expo b h.1, bits_one b, sgn_div h.1, w64_of (by omega) (by omega)]
  by_cases h0 : expo b = 0
  · have hm : manti b = frac b := by unfold manti; rw [if_pos h0]
    have he : expoV b = 1 - 1075 := by unfold expoV; rw [if_pos h0]
    rw [if_pos (by omega), hm, he]
    rfl
  · have hm : manti b = frac b + 4503599627370496 := by unfold manti; rw [if_neg h0]
    have he : expoV b = (expo b : Int) - 1075 := by unfold expoV; rw [if_neg h0]
    rw [if_neg (by omega), w64_of (x := (expo b : Int) - 1075) (by omega) (by omega), ← he, hm]
    rfl
theorem rfloat_law {b : Nat} (h : Fin64 b) : Ev (fun k => cuspref02_Float.f k b) (canN (flz b) (-1074)) := by
  have hm := manti_lt b
  have he := expoV_range h
  have hn := rnorm_law (sgn b) (word2 (manti b)) (expoV b) (word2_dg _) (by simp [word2]) (by omega) (by omega)
  rw [word2_val (by omega), show (if sgn b = true then -(manti b : Int) else (manti b : Int)) = floV b from rfl, can_flo h] at hn
  exact Ev.congr (fun k => rfloat_eq h k) (Ev.bind hn (Ev.now _))
theorem rtotal_ev (l : List Nat) (hf : ∀ b ∈ l, Fin64 b) (hl : l.length ≤ 65536) : ∀ d i : Nat, i + d = l.length →
    Ev (fun k => cuspref05_Total.l0 k l (i : Int) (canN (sumZ (l.take i)) (-1074)).1 (canN (sumZ (l.take i)) (-1074)).2.1 (canN (sumZ (l.take i)) (-1074)).2.2) (canN (sumZ l) (-1074)) := by
  intro d
  induction d with
  | zero =>
    intro i hi
    obtain rfl : i = l.length := by omega
    rw [List.take_length]
    refine Ev.step (f := fun _ => some (canN (sumZ l) (-1074))) (fun k => ?_) (Ev.now _)
    rw [cuspref05_Total.l0, if_neg (by omega)]
  | succ d ih =>
    intro i hi
    have hil : i < l.length := by omega
    have hb := hf l[i] (List.getElem_mem hil)
    have ht : ∀ b ∈ l.take i, Fin64 b := fun b hb => hf b (List.mem_of_mem_take hb)
    have e1 : sumZ (l.take i) + flz l[i] = sumZ (l.take (i + 1)) := by
      rw [List.take_succ_eq_append_getElem hil, sumZ_append]; simp [sumZ]
    have b1 := sumZ_bl (l.take i) ht (by rw [List.length_take]; omega)
    have b2 : bl (flz l[i]).natAbs ≤ 2098 := bl_le.2 (flz_lt hb)
    have h := ih (i + 1) (by omega)
    rw [← e1] at h
    refine Ev.step (fun k => ?_) (Ev.bind (f := fun k bt => (cuspref02_Plus.f (canN (sumZ (l.take i)) (-1074)).1 (canN (sumZ (l.take i)) (-1074)).2.1 (canN (sumZ (l.take i)) (-1074)).2.2 bt.1 bt.2.1 bt.2.2).bind fun bt => cuspref05_Total.l0 k l ((i + 1 : Nat) : Int) bt.1 bt.2.1 bt.2.2) (rfloat_law hb) (Ev.bind (f := fun k bt => cuspref05_Total.l0 k l ((i + 1 : Nat) : Int) bt.1 bt.2.1 bt.2.2) (Ev.congr (fun k => rplus_can (by omega) (by omega)) (Ev.now (canN (sumZ (l.take i) + flz l[i]) (-1074)))) h))
    rw [cuspref05_Total.l0, if_pos (by omega), if_pos (by omega), rdOf_get l i hil, w64_succ (by omega)]
theorem rtotal_law (l : List Nat) (hf : ∀ b ∈ l, Fin64 b) (hl : l.length ≤ 65536) : Ev (fun k => cuspref05_Total.f k l) (canN (sumZ l) (-1074)) := by
  have h := rtotal_ev l hf hl l.length 0 (by omega)
  have h2 : Ev (fun k => cuspref05_Total.l0 k l 0 false [] 0) (canN (sumZ l) (-1074)) := by simpa [sumZ, canN_zero] using h
  exact h2
theorem mag_law {b : Nat} (h : b < 18446744073709551616) : cuspref01_mag.f b = some ((b % 9223372036854775808 : Nat) : Int) := by
  unfold cuspref01_mag.f cuspref01_Bits.f
  rw [Option.bind_some, bits_abs b h]
theorem risnan_law {b : Nat} (h : b < 18446744073709551616) : cuspref01_IsNaN.f b = some (nanB b) := by
  unfold cuspref01_IsNaN.f
  rw [mag_law h, Option.bind_some, nan_law h]
  congr 1
  rw [decide_eq_decide]; omega
theorem risinf_law {b : Nat} (h : b < 18446744073709551616) : cuspref01_IsInf.f b = some (infB? b) := by
  unfold cuspref01_IsInf.f
  rw [mag_law h, Option.bind_some, inf_law h]
  congr 1
  by_cases hb : b % 9223372036854775808 = 9218868437227405312
  · rw [hb]; rfl
  · rw [beq_eq_false_iff_ne.2 hb, beq_eq_false_iff_ne]; omega
theorem riszero_law {b : Nat} (h : b < 18446744073709551616) : cuspref01_IsZero.f b = some (decide (b % 9223372036854775808 = 0)) := by
  unfold cuspref01_IsZero.f
  rw [mag_law h, Option.bind_some]
  congr 1
  by_cases hb : b % 9223372036854775808 = 0
  · rw [hb]; rfl
  · rw [decide_eq_false hb, beq_eq_false_iff_ne]; omega
theorem rneg_law {b : Nat} (h : b < 18446744073709551616) : cuspref01_Neg.f b = some (sgn b) := by
  unfold cuspref01_Neg.f cuspref01_Bits.f
  rw [Option.bind_some, sgn_div h]
theorem same_law (a : Nat) : cusplaw05_same.f a a = some true := by
  unfold cusplaw05_same.f cuspref01_Same.f cuspref01_Bits.f
  rw [Option.bind_some, Option.bind_some, if_pos rfl]; rfl
theorem rfault_ev (l : List Nat) (hw : ∀ b ∈ l, b < 18446744073709551616) (hl : l.length ≤ 65536) : ∀ (d i : Nat) (x : Int), i + d = l.length → (∀ b ∈ l.take i, nanB b = false) → x = (if (l.take i).any infB? = true then 5 else 0) →
    Ev (fun k => cuspref05_Fault.l0 k l x (i : Int)) (if l.any nanB = true then (4 : Int) else if l.any infB? = true then 5 else 0) := by
  intro d
  induction d with
  | zero =>
    intro i x hi hn hx
    obtain rfl : i = l.length := by omega
    rw [List.take_length] at hn hx
    have : l.any nanB = false := by
      rw [List.any_eq_false]; intro b hb; rw [hn b hb]; simp
    rw [this, if_neg (by simp), ← hx]
    refine Ev.step (f := fun _ => some x) (fun k => ?_) (Ev.now _)
    rw [cuspref05_Fault.l0, if_neg (by omega)]
  | succ d ih =>
    intro i x hi hn hx
    have hil : i < l.length := by omega
    have hb := hw l[i] (List.getElem_mem hil)
    by_cases hna : nanB l[i] = true
    · have : l.any nanB = true := List.any_eq_true.2 ⟨_, List.getElem_mem hil, hna⟩
      rw [this, if_pos rfl]
      refine Ev.step (f := fun _ => some 4) (fun k => ?_) (Ev.now _)
      rw [cuspref05_Fault.l0, if_pos (by omega), if_pos (by omega), rdOf_get l i hil, risnan_law hb, Option.bind_some, if_pos hna]
    · have hn2 : ∀ b ∈ l.take (i + 1), nanB b = false := by
        intro b hb
        rw [List.take_succ_eq_append_getElem hil, List.mem_append] at hb
        rcases hb with hb | hb
        · exact hn b hb
        · simp at hb; subst hb; simpa using hna
      have hx2 : ∀ y, y = (if infB? l[i] = true then 5 else x) → y = (if (l.take (i + 1)).any infB? = true then 5 else 0) := by
        intro y hy
        rw [List.take_succ_eq_append_getElem hil, List.any_append, hy, hx]
        cases h1 : infB? l[i] <;> cases h2 : (l.take i).any infB? <;> simp [h1]
      refine Ev.step (fun k => ?_) (ih (i + 1) _ (by omega) hn2 (hx2 _ rfl))
      rw [cuspref05_Fault.l0, if_pos (by omega), if_pos (by omega), rdOf_get l i hil, risnan_law hb, Option.bind_some, if_neg hna, risinf_law hb, Option.bind_some, w64_succ (by omega)]
      split <;> rfl
theorem rfault_law (l : List Nat) (hw : ∀ b ∈ l, b < 18446744073709551616) : Ev (fun k => cuspref05_Fault.f k l) (faultL l) := by
  unfold cuspref05_Fault.f faultL
  by_cases hl : 65536 < l.length
  · rw [if_pos hl]; exact Ev.congr (fun k => if_pos (by omega)) (Ev.now _)
  · rw [if_neg hl]
    exact Ev.congr (fun k => if_neg (by omega)) (rfault_ev l hw (by omega) l.length 0 0 (by omega) (by simp) (by simp))
theorem rnought_law (x : Bool) : cuspref01_Nought.f x = some (if x = true then 9223372036854775808 else 0) := by
  cases x <;> rfl
theorem rvalid_yes {m : Int} (h : 1 ≤ m ∧ m ≤ 3) : cuspref03_Valid.f m = some 0 := by
  unfold cuspref03_Valid.f
  rw [if_neg (by omega), if_neg (by omega)]
theorem rvalid_no {m : Int} (h : ¬ (1 ≤ m ∧ m ≤ 3)) : cuspref03_Valid.f m = some 1 := by
  unfold cuspref03_Valid.f
  by_cases h1 : m < 1
  · rw [if_pos h1]
  · rw [if_neg h1, if_pos (by omega)]
theorem rR_law {z mode : Int} (h1 : bl z.natAbs ≤ 60000) (hm : 1 ≤ mode ∧ mode ≤ 3) (x : Nat) : cuspref03_R.f (canN z (-1074)).1 (canN z (-1074)).2.1 (canN z (-1074)).2.2 mode x = some (if z = 0 then x else rndZ z mode) := by
  unfold cuspref03_R.f cuspref02_Sgn.f
  by_cases h : z = 0
  · rw [if_pos (by have := (can_length (e := -1074)).2 h; omega), Option.bind_some, if_pos rfl, if_pos h]
  · rw [if_neg (fun h' => h ((can_length (e := -1074)).1 (by omega))), if_neg h]
    have : ∀ s : Option Int, s = (if (canN z (-1074)).1 = true then some (-1) else some 1) → (s.bind fun t => if t = 0 then some x else (cuspref02_To.f (canN z (-1074)).1 (canN z (-1074)).2.1 (canN z (-1074)).2.2 mode).bind fun t => some t) = some (rndZ z mode) := by
      intro s hs
      rw [hs, to_can h1 hm]
      split <;> rfl
    exact this _ rfl
def allZ (l : List Nat) : Bool := decide (0 < l.length) && l.all (fun b => decide (b = 9223372036854775808))
theorem rexact_ev (l : List Nat) (hf : ∀ b ∈ l, Fin64 b) (hl : l.length ≤ 65536) (mode : Int) (hm : 1 ≤ mode ∧ mode ≤ 3) : ∀ (d i : Nat) (x : Bool), i + d = l.length → x = (decide (0 < l.length) && (l.take i).all (fun b => decide (b = 9223372036854775808))) →
    Ev (fun k => cuspref05_Exact.l0 k l mode x (i : Int)) (if sumZ l = 0 then (if allZ l = true then 9223372036854775808 else 0) else rndZ (sumZ l) mode, 0) := by
  intro d
  induction d with
  | zero =>
    intro i x hi hx
    obtain rfl : i = l.length := by omega
    rw [List.take_length] at hx
    have hb := sumZ_bl l hf hl
    refine Ev.step (f := fun k => (cuspref05_Total.f k l).bind fun bt => (cuspref01_Nought.f x).bind fun t => (cuspref03_R.f bt.1 bt.2.1 bt.2.2 mode t).bind fun t => some (t, (0 : Int))) (fun k => ?_) (Ev.bind (rtotal_law l hf hl) ?_)
    · rw [cuspref05_Exact.l0, if_neg (by omega)]
    · refine Ev.congr (f := fun _ => some _) (fun k => ?_) (Ev.now _)
      rw [rnought_law, Option.bind_some, rR_law (by omega) hm, Option.bind_some, hx]
      rfl
  | succ d ih =>
    intro i x hi hx
    have hil : i < l.length := by omega
    have hb := hf l[i] (List.getElem_mem hil)
    have hx2 : ∀ y, y = (x && decide (l[i] = 9223372036854775808)) → y = (decide (0 < l.length) && (l.take (i + 1)).all (fun b => decide (b = 9223372036854775808))) := by
      intro y hy
      rw [hy, hx, List.take_succ_eq_append_getElem hil, List.all_append]
      simp [Bool.and_assoc]
    refine Ev.step (fun k => ?_) (ih (i + 1) _ (by omega) (hx2 _ rfl))
    rw [cuspref05_Exact.l0, if_pos (by omega), rdOf_get l i hil, riszero_law hb.1, rneg_law hb.1, w64_succ (by omega)]
    cases x
    · rw [if_neg (by simp)]; rfl
    · rw [if_pos rfl, if_pos (by omega), Option.bind_some]
      by_cases h0 : l[i] % 9223372036854775808 = 0
      · rw [decide_eq_true h0, if_pos rfl, Option.bind_some]
        have : sgn l[i] = (true && decide (l[i] = 9223372036854775808)) := by
          rw [Bool.true_and]; unfold sgn; rw [decide_eq_decide]; have := hb.1; omega
        rw [this]
      · rw [decide_eq_false h0, if_neg (by simp)]
        have : (true && decide (l[i] = 9223372036854775808)) = false := by rw [Bool.true_and, decide_eq_false]; omega
        rw [this]
theorem all_one (l : List Nat) (hf : ∀ b ∈ l, Fin64 b) : l.any oneB = false ↔ l.all (fun b => decide (b = 9223372036854775808)) = true := by
  induction l with
  | nil => simp
  | cons b l ih =>
    have ih := ih (fun b hb => hf b (List.mem_cons_of_mem _ hb))
    rw [List.any_cons, List.all_cons, one_law (hf b List.mem_cons_self), Bool.or_eq_false_iff, ih, Bool.and_eq_true]
    cases decide (b = 9223372036854775808) <;> simp
theorem rexact_law (l : List Nat) (hw : ∀ b ∈ l, b < 18446744073709551616) (mode : Int) : Ev (fun k => cuspref05_Exact.f k l mode) (exactW l mode (canN (sumZ l) (-1074))) := by
  unfold cuspref05_Exact.f exactW
  by_cases hm : 1 ≤ mode ∧ mode ≤ 3
  · rw [if_pos hm, rvalid_yes hm]
    refine Ev.congr (f := fun k => (cuspref05_Fault.f k l).bind fun t => if t = 0 then cuspref05_Exact.l0 k l mode (decide ((l.length : Int) > 0)) 0 else some (0, t)) (fun k => rfl) (Ev.bind (rfault_law l hw) ?_)
    by_cases hf : faultL l = 0
    · rw [if_pos hf]
      obtain ⟨h1, h2⟩ := fault_zero hw hf
      have hb := sumZ_bl l h2 h1
      have he := rexact_ev l h2 h1 mode hm l.length 0 (decide ((l.length : Int) > 0)) (by omega) (by simp)
      refine Ev.congr (fun k => if_pos hf) ?_
      by_cases hz : sumZ l = 0
      · rw [if_pos ((can_length (e := -1074)).2 hz)]
        rw [if_pos hz] at he
        by_cases ha : 0 < l.length ∧ l.any oneB = false
        · rw [if_pos ha]
          rw [if_pos (by unfold allZ; rw [decide_eq_true ha.1, (all_one l h2).1 ha.2]; rfl)] at he
          exact he
        · rw [if_neg ha]
          rw [if_neg (by
            unfold allZ
            intro h
            rw [Bool.and_eq_true, decide_eq_true_eq] at h
            exact ha ⟨h.1, (all_one l h2).2 h.2⟩)] at he
          exact he
      · rw [if_neg (fun h => hz ((can_length (e := -1074)).1 h))]
        rw [if_neg hz] at he
        have hr := round_can (z := sumZ l) (mode := mode) (by omega) hm
        unfold dyad_Round.f at hr
        rw [if_pos (isN_can (by omega) (by omega) (by omega))] at hr
        rw [Option.some.inj hr]
        exact he
    · rw [if_neg hf]
      exact Ev.congr (fun k => if_neg hf) (Ev.now _)
  · rw [if_neg hm, rvalid_no hm]
    exact Ev.congr (f := fun _ => some (0, 1)) (fun k => rfl) (Ev.now _)
theorem exact_pure (l : List Nat) (hl : l.length < 4611686018427387904) (hw : ∀ b ∈ l, b < 18446744073709551616) (mode : Int) : ∃ k, cusplaw05_SumsExact.f k l mode = some true := by
  apply Ev.rounds
  unfold cusplaw05_SumsExact.f sums_Exact.f
  rw [if_pos ⟨hl, hw⟩]
  refine Ev.congr (f := fun k => (cuspref05_Exact.f k l mode).bind fun bt => (cusplaw05_same.f (exactW l mode (canN (sumZ l) (-1074))).1 bt.1).bind fun t => if t = true then (if (exactW l mode (canN (sumZ l) (-1074))).2 = bt.2 then (cusplaw05_sure.f).bind fun t => some t else some false) else some false) (fun k => rfl) (Ev.bind (rexact_law l hw mode) ?_)
  refine Ev.congr (f := fun _ => some true) (fun k => ?_) (Ev.now _)
  rw [same_law, Option.bind_some, if_pos rfl, if_pos rfl]; rfl
end Go.Proofs.YthmeocigliephaaGreatDoor.Big
end
