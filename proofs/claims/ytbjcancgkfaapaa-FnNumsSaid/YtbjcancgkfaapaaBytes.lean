/- A text's bytes as whole numbers, one by one, in joined and cut texts. No conditions. -/
import Derived.Test.YtbjcancgkfaapaaBase
namespace Go.Proofs.Ytbjcancgkfaapaa.Pure
set_option linter.unusedVariables false
set_option linter.unusedSimpArgs false
open Go Go.RowKit Go.Proofs.YtbjcancgkfaapaaW.PrintWords Go.Proofs.YtbjcancgkfaapaaW.PrintLast Go.Proofs.YtbjcancgkfaapaaW.PrintMore
def bl (s : ByteArray) : List Int := s.data.toList.map (fun b => (b.toNat : Int))
theorem bl_length (s : ByteArray) : (bl s).length = s.size := by rw [bl, List.length_map, Array.length_toList]; rfl
theorem bt_bl (s : ByteArray) (i : Nat) : bt s (i : Int) = ((bl s)[i]?).getD 0 := by
  unfold bt bl
  by_cases h : i < s.size
  · have h2 : i < s.data.size := h
    rw [dif_pos (by simpa using h)]
    simp only [Int.toNat_natCast, List.getElem?_map, Array.getElem?_toList, Array.getElem?_eq_getElem h2, Option.map_some, Option.getD_some]
    rfl
  · have h2 : s.data.size ≤ i := Nat.not_lt.1 h
    rw [dif_neg (by simpa using h)]
    simp [Array.getElem?_eq_none h2]
theorem bl_append (a b : ByteArray) : bl (a ++ b) = bl a ++ bl b := by simp [bl]
theorem bl_extract (a : ByteArray) (n : Nat) : bl (a.extract 0 n) = (bl a).take n := by simp [bl, ByteArray.data_extract, List.extract_eq_take_drop]
theorem bl_nums (l : List Int) (h : ∀ x ∈ l, 0 ≤ x ∧ x < 256) : bl (strOfNums l) = l := by
  unfold bl
  rw [strOfNums_data, List.map_map]
  refine (List.map_congr_left (fun x hx => ?_)).trans (List.map_id l)
  have := h x hx
  simp only [Function.comp, UInt8.toNat_ofNat']
  show ((x.toNat % 2 ^ 8 : Nat) : Int) = id x
  rw [show (2 : Nat) ^ 8 = 256 from rfl]; simp only [id]; omega
theorem bt_app_right (a b : ByteArray) (i : Nat) : bt (a ++ b) ((a.size + i : Nat) : Int) = bt b (i : Int) := by
  rw [bt_bl, bt_bl, bl_append, List.getElem?_append_right (by rw [bl_length]; omega), bl_length, Nat.add_sub_cancel_left]
theorem bt_app_left (a b : ByteArray) (i : Nat) (h : i < a.size) : bt (a ++ b) (i : Int) = bt a (i : Int) := by
  rw [bt_bl, bt_bl, bl_append, List.getElem?_append_left (by rw [bl_length]; exact h)]
theorem bt_take (a : ByteArray) (n i : Nat) (h : i < n) : bt (a.extract 0 n) (i : Int) = bt a (i : Int) := by
  rw [bt_bl, bt_bl, bl_extract, List.getElem?_take, if_pos h]
end Go.Proofs.Ytbjcancgkfaapaa.Pure
