/- What the printed functions of the program's polynomials come to, as lists of numbers: Reduce and Shift. -/
import Derived.Test.YtfhnakebfiaccaaP1
namespace Go.Proofs.Ytfhnakebfiaccaa.P
open Go.RowKit Go.Proofs.Ytfhnakebfiaccaa.M Go.Proofs.YtfhnakebfiaccaaW.PrintWords Go.Proofs.YtfhnakebfiaccaaW.PrintLast Go.Proofs.YtfhnakebfiaccaaW.PrintMore

/-- Numbers as the program's ints. -/
def iN (l : List Nat) : List Int := l.map (fun x : Nat => (x : Int))
theorem iN_length (l : List Nat) : (iN l).length = l.length := by simp [iN]
theorem rd_iN (l : List Nat) (i : Nat) : rd (iN l) (i : Int) = ((l[i]?.getD 0 : Nat) : Int) := by
  rw [rd, Int.toNat_natCast, List.getD_eq_getElem?_getD, iN, List.getElem?_map]
  cases l[i]? <;> rfl
theorem iN_set (l : List Nat) (i x : Nat) : (iN l).set i (x : Int) = iN (l.set i x) := by simp [iN, List.map_set]
theorem iN_append (l m : List Nat) : iN (l ++ m) = iN l ++ iN m := by simp [iN]
theorem iN_replicate (n x : Nat) : iN (List.replicate n x) = List.replicate n (x : Int) := by simp [iN]
theorem toN_iN (l : List Nat) : toN (iN l) = l := by
  simp only [toN, iN, List.map_map]
  conv => rhs; rw [← List.map_id l]
  exact List.map_congr_left (fun a _ => by simp)
theorem iN_toN {l : List Int} (h : Bytes l) : iN (toN l) = l := by
  simp only [toN, iN, List.map_map]
  conv => rhs; rw [← List.map_id l]
  exact List.map_congr_left (fun a ha => by have := h a ha; simp; omega)
/-- Bytes as numbers. -/
def ByteN (l : List Nat) : Prop := ∀ x ∈ l, x < 256
theorem bytes_iN {l : List Nat} (h : ByteN l) : Bytes (iN l) := by
  intro x hx
  simp only [iN, List.mem_map] at hx
  obtain ⟨y, hy, rfl⟩ := hx
  have := h y hy
  omega
theorem byteN_toN {l : List Int} (h : Bytes l) : ByteN (toN l) := by
  intro x hx
  simp only [toN, List.mem_map] at hx
  obtain ⟨y, hy, rfl⟩ := hx
  have := h y hy
  omega
theorem byteN_red (l : List Nat) : ByteN (red l) := fun x hx => Nat.lt_trans (red_bit l x hx) (by decide)
theorem byteN_get {l : List Nat} (h : ByteN l) (i : Nat) : l[i]?.getD 0 < 256 := by
  by_cases hi : i < l.length
  · rw [List.getElem?_eq_getElem hi]; exact h _ (List.getElem_mem hi)
  · rw [List.getElem?_eq_none (by omega)]; decide
theorem wrap_id {x : Int} (h : -9223372036854775808 ≤ x ∧ x ≤ 9223372036854775807) : wrap64 x = x := by unfold wrap64; omega
theorem and_one {x : Nat} (h : x < 256) : Go.bits .and .u8 (x : Int) 1 = ((x % 2 : Nat) : Int) := by
  have := and_one_walk (x := (x : Int)) (by omega) (by omega)
  simpa using this

/-! ### poly.Reduce -/
def redAt (l : List Nat) (i : Nat) : List Nat := (l.take i).map (· % 2) ++ List.replicate (lead l - i) 0
theorem redAt_length (l : List Nat) (i : Nat) (h : i ≤ lead l) : (redAt l i).length = lead l := by
  have := lead_le l
  simp [redAt]; omega
theorem redAt_step (l : List Nat) (i : Nat) (h : i < lead l) : (redAt l i).set i (co l i) = redAt l (i + 1) := by
  have h2 := lead_le l
  have h3 : i < l.length := by omega
  have e1 : l.take (i + 1) = l.take i ++ [l[i]] := List.take_succ_eq_append_getElem h3
  have e2 : List.replicate (lead l - i) 0 = 0 :: List.replicate (lead l - (i + 1)) 0 := by rw [show lead l - i = (lead l - (i + 1)) + 1 by omega, List.replicate_succ]
  rw [redAt, redAt, e1, e2, List.map_append, List.append_assoc, List.set_append_right _ _ (by simp; omega)]
  congr 1
  have e3 : i - ((l.take i).map (· % 2)).length = 0 := by simp; omega
  rw [e3]
  simp [co, h3]
theorem reduce_loop {l : List Nat} (hl : ByteN l) (hs : l.length ≤ 1099511627776) (d : Nat) : ∀ i, i ≤ lead l → lead l - i = d →
    Ev (fun k => poly_Reduce.l0 k (iN l) (iN (redAt l i)) (lead l : Int) (i : Int)) (iN (red l)) := by
  have h2 := lead_le l
  induction d with
  | zero =>
    intro i hi hd
    obtain rfl : i = lead l := by omega
    refine Ev.step (f := fun _ => some (iN (red l))) (fun k => ?_) (Ev.now _)
    simp only [poly_Reduce.l0]
    rw [if_neg (by omega)]
    congr 2
    simp [redAt, red]
  | succ d ih =>
    intro i hi hd
    refine Ev.step (fun k => ?_) (ih (i + 1) (by omega) (by omega))
    simp only [poly_Reduce.l0]
    have hlen := redAt_length l i (by omega)
    rw [if_pos (by omega), if_pos (by omega), if_pos (by rw [iN_length]; omega), if_pos (by rw [iN_length, hlen]; omega), Int.toNat_natCast, rd_iN, and_one (byteN_get hl i)]
    have e : l[i]?.getD 0 % 2 = co l i := rfl
    rw [e, iN_set, redAt_step l i (by omega), wrap_id (by omega)]
    rfl
theorem reduce_pure {l : List Nat} (hl : ByteN l) (hs : l.length ≤ 1099511627776) : Ev (fun k => poly_Reduce.f k (iN l)) (iN (red l)) := by
  have h2 := lead_le l
  refine Ev.congr (fun k => ?_) (reduce_loop hl hs (lead l) 0 (Nat.zero_le _) (by omega))
  unfold poly_Reduce.f poly_Degree.f
  rw [if_pos (bytes_iN hl), toN_iN]
  simp only [Option.bind_some]
  have e : wrap64 ((lead l : Int) - 1 + 1) = (lead l : Int) := by rw [wrap_id (by omega)]; omega
  rw [e, if_pos (by omega), if_pos (by omega), Int.toNat_natCast, List.length_replicate]
  have e2 : redAt l 0 = List.replicate (lead l) 0 := by simp [redAt]
  rw [e2, iN_replicate]
  rfl

/-! ### poly.Shift -/
theorem shift_pure {l : List Nat} (hl : ByteN l) (hs : l.length ≤ 1048576) (n : Nat) (hn : n ≤ 1048576) : Ev (fun k => poly_Shift.f k (iN l) (n : Int)) (iN (red (List.replicate n 0 ++ l))) := by
  have hb : ByteN (List.replicate n 0 ++ l) := by
    intro x hx
    rcases List.mem_append.1 hx with h | h
    · rw [List.eq_of_mem_replicate h]; decide
    · exact hl x h
  have hr := reduce_pure hb (by simp; omega)
  have e0 : decide ((n : Int) > 1048576) = false := decide_eq_false (by omega)
  refine Ev.congr (f := fun k => poly_Shift.j0 k (iN l) (n : Int) false) (fun k => ?_) ?_
  · unfold poly_Shift.f
    rw [if_neg (by omega), e0]
  · refine Ev.step (fun k => ?_) (Ev.bind hr (Ev.now _))
    simp only [poly_Shift.j0]
    rw [if_neg (by decide), if_pos (by omega), if_pos (by omega), Int.toNat_natCast]
    unfold poly_Poly_byte_44.f
    have e1 : [List.replicate n (0 : Int), iN l].flatten = iN (List.replicate n 0 ++ l) := by
      rw [iN_append, iN_replicate]
      simp
    rw [e1, iN_length, if_pos (by simp; omega)]
    rfl

/-! ### crc.Sum -/
theorem not_walk {x : Nat} (h : x < 4294967296) : Go.bits .xor .u32 4294967295 (x : Int) = ((4294967295 - x : Nat) : Int) := by
  rw [← not_xor h]
  exact u32_xor_nat 4294967295 x (by decide) h
def ByteL (ls : List (List Nat)) : Prop := ∀ l ∈ ls, ByteN l
theorem rd_L1_map (ls : List (List Nat)) (i : Nat) : rd_L1 (ls.map iN) (i : Int) = iN (ls[i]?.getD []) := by
  rw [rd_L1, Int.toNat_natCast, List.getD_eq_getElem?_getD, List.getElem?_map]
  cases ls[i]? <;> rfl
theorem add_pure {r : Nat} (hr : r < 4294967296) {b : List Nat} (hb : ByteN b) : crc_add.f (r : Int) (iN b) = some ((crcN r b : Nat) : Int) := by
  unfold crc_add.f
  rw [if_pos ⟨by omega, by omega, bytes_iN hb⟩, toN_iN, Int.toNat_natCast]
theorem sum_loop {ls : List (List Nat)} (hls : ByteL ls) (hs : ls.length ≤ 1099511627776) (d : Nat) : ∀ i r : Nat, r < 4294967296 → i ≤ ls.length → ls.length - i = d →
    Ev (fun k => crc_Sum.l0 k (r : Int) (ls.map iN) (ls.length : Int) (i : Int)) ((4294967295 - crcN r (ls.drop i).flatten : Nat) : Int) := by
  induction d with
  | zero =>
    intro i r hr hi hd
    obtain rfl : i = ls.length := by omega
    refine Ev.step (f := fun _ => some ((4294967295 - crcN r (ls.drop ls.length).flatten : Nat) : Int)) (fun k => ?_) (Ev.now _)
    simp only [crc_Sum.l0]
    rw [if_neg (by omega), not_walk hr, List.drop_length, List.flatten_nil, crcN_nil]
  | succ d ih =>
    intro i r hr hi hd
    have hlt : i < ls.length := by omega
    have hb : ByteN (ls[i]?.getD []) := by rw [List.getElem?_eq_getElem hlt]; exact hls _ (List.getElem_mem hlt)
    have e : crcN r (ls.drop i).flatten = crcN (crcN r (ls[i]?.getD [])) (ls.drop (i + 1)).flatten := by
      rw [List.drop_eq_getElem_cons hlt, List.flatten_cons, crcN_append, List.getElem?_eq_getElem hlt]
      rfl
    rw [e]
    refine Ev.step (fun k => ?_) (ih (i + 1) (crcN r (ls[i]?.getD [])) (crcN_lt _ hr) (by omega) (by omega))
    simp only [crc_Sum.l0]
    rw [if_pos (by omega), if_pos (by omega), if_pos (by rw [List.length_map]; omega), rd_L1_map, add_pure hr hb, Option.bind_some, wrap_id (by omega)]
    rfl
theorem sum_pure {ls : List (List Nat)} (hls : ByteL ls) (hs : ls.length ≤ 1099511627776) : Ev (fun k => crc_Sum.f k (ls.map iN)) ((crcF ls.flatten : Nat) : Int) := by
  have h := sum_loop hls hs ls.length 0 4294967295 (by decide) (Nat.zero_le _) (by omega)
  refine Ev.congr (fun k => ?_) h
  unfold crc_Sum.f
  rw [List.length_map]
  rfl
end Go.Proofs.Ytfhnakebfiaccaa.P
