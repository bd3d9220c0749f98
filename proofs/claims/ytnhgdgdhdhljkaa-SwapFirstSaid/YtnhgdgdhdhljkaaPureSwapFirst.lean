/- The first instant above any minute, as the program reckons it, is the one that the chapter says: for every every and every minute up to 2^61. -/
import Derived.Test.YtnhgdgdhdhljkaaPSwapFirstx1
namespace Go.Proofs.Ytnhgdgdhdhljkaa.Pure
open Go.RowKit Go.Proofs.Ytnhgdgdhdhljkaa.PSwapFirst Go.Proofs.YtnhgdgdhdhljkaaW.PrintWords Go.Proofs.YtnhgdgdhdhljkaaW.PrintLast

theorem first_eq (m a : Int) (hm : 1 ≤ m) (hm2 : m ≤ 2305843009213693952) (ha : 0 ≤ a) (ha2 : a ≤ 2305843009213693952) :
    wrap64 ((wrap64 (a - (Int.tmod a m))) + m) = wrap64 ((wrap64 ((wrap64 (Int.tdiv a m)) + 1)) * m) := by
  rw [Int.tmod_eq_emod_of_nonneg ha, Int.tdiv_eq_ediv_of_nonneg ha]
  have h1 : 0 ≤ a % m := Int.emod_nonneg _ (by omega)
  have h2 : a % m < m := Int.emod_lt_of_pos _ (by omega)
  have h3 : a / m * m + a % m = a := Int.ediv_mul_add_emod a m
  have h4 : 0 ≤ a / m := Int.ediv_nonneg ha (by omega)
  have h5 : a / m ≤ a := Int.ediv_le_self _ ha
  have e1 : wrap64 (a / m) = a / m := by unfold wrap64; omega
  have e2 : wrap64 (a / m + 1) = a / m + 1 := by unfold wrap64; omega
  have e3 : wrap64 (a - a % m) = a - a % m := by unfold wrap64; omega
  rw [e1, e2, e3]
  congr 1
  rw [Int.add_mul]
  omega

theorem SwapFirst : tocsinlaw27_SwapFirst.Pure := by
  intro a0 a1 _ _
  unfold tocsinlaw27_SwapFirst.f swap_First.f tocsinref27_First.f
  by_cases h1 : a1 > 2305843009213693952
  · rw [if_pos h1]
  rw [if_neg h1]
  by_cases h2 : a0 > 2305843009213693952
  · rw [if_pos h2]
  rw [if_neg h2]
  by_cases h3 : a1 < 0
  · simp [h3]
  rw [if_neg h3]
  by_cases h4 : a0 < 1
  · have e : mx a0 1 = 1 := by unfold mx; omega
    rw [if_pos h4, if_neg h3, e, if_neg (by decide)]
    simp only [Option.bind_some]
    rw [first_eq 1 a1 (by omega) (by omega) (by omega) (by omega)]
    simp
  · have e : mx a0 1 = a0 := by unfold mx; omega
    rw [if_neg h4, if_neg h3, e, if_neg (by omega), if_neg (by omega)]
    simp only [Option.bind_some]
    rw [first_eq a0 a1 (by omega) (by omega) (by omega) (by omega)]
    simp

end Go.Proofs.Ytnhgdgdhdhljkaa.Pure
