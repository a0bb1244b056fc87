/- Two facts on the sizes of joined texts. -/
import Derived.Test.YtdcjgibdfpldgaaProg
namespace Go.Proofs.Ytdcjgibdfpldgaa.PLex
theorem cat1 {a b : ByteArray} {x : Int} (h : x ≤ (a.size : Int)) (k : (a.extract 0 x.toNat).size + b.size ≤ 9223372036854775807) : (9223372036854775807 < x.toNat + b.size) = False := by
  have e : (a.extract 0 x.toNat).size = x.toNat := by simp; omega
  rw [e] at k; exact eq_false (by omega)
theorem cat2 {a b : ByteArray} {x : Int} (h : x ≤ (a.size : Int)) (k : ((a.extract 0 x.toNat) ++ b).size + (a.extract x.toNat a.size).size ≤ 9223372036854775807) : (9223372036854775807 < x.toNat + b.size + (a.size - x.toNat)) = False := by
  have e : (a.extract 0 x.toNat).size = x.toNat := by simp; omega
  have e2 : (a.extract x.toNat a.size).size = a.size - x.toNat := by simp
  rw [ByteArray.size_append, e, e2] at k; exact eq_false (by omega)
end Go.Proofs.Ytdcjgibdfpldgaa.PLex
