/- What the printed functions of the checksum come to, as lists of numbers: Seal, Equal, Sealed, Zeros. -/
import Derived.Test.YtfhnakebfiaccaaP5
namespace Go.Proofs.Ytfhnakebfiaccaa.P
open Go.RowKit Go.Proofs.Ytfhnakebfiaccaa.M Go.Proofs.YtfhnakebfiaccaaW.PrintWords Go.Proofs.YtfhnakebfiaccaaW.PrintLast Go.Proofs.YtfhnakebfiaccaaW.PrintMore

/-! ### crc.Packet -/
theorem packet_pure {b : List Nat} (hb : ByteN b) (hs : b.length ≤ 1099511627776) : crc_Packet.f (iN b) = if b.length < 12 then some (0, false) else some (((crcF (blankField b) : Nat) : Int), true) := by
  unfold crc_Packet.f
  rw [if_pos ⟨bytes_iN hb, by rw [iN_length]; exact hs⟩, iN_length, toN_iN]
/-! ### crc.Seal -/
/-- A number's four bytes laid into the field, the lowest first. -/
def lay4 (b : List Nat) (x : Nat) : List Nat := (((b.set 8 (x % 256)).set 9 (x / 256 % 256)).set 10 (x / 65536 % 256)).set 11 (x / 16777216 % 256)
def sealN (b : List Nat) : List Nat := lay4 b (crcF (blankField b))
theorem lay4_length (b : List Nat) (x : Nat) : (lay4 b x).length = b.length := by simp [lay4]
theorem shr32 (x m : Nat) (h : m ≤ 32) : shr .u32 (x : Int) (m : Int) = ((x / 2 ^ m : Nat) : Int) := by
  unfold shr
  rw [Int.toNat_natCast, show min m IntKind.u32.bits = m from Nat.min_eq_left h]
  simp
theorem seal_step (k x i : Nat) (l : List Nat) (hi : i < 4) (hl : 12 ≤ l.length) (hs : l.length ≤ 1099511627776) :
    crc_Seal.l0 (k + 1) (x : Int) (iN l) 4 (i : Int) = crc_Seal.l0 k (x : Int) (iN (l.set (8 + i) (x / 2 ^ (8 * i) % 256))) 4 ((i + 1 : Nat) : Int) := by
  simp only [crc_Seal.l0]
  have e1 : wrap64 (8 * (i : Int)) = ((8 * i : Nat) : Int) := by rw [wrap_id (by omega)]; omega
  have e2 : wrap64 (8 + (i : Int)) = ((8 + i : Nat) : Int) := by rw [wrap_id (by omega)]; omega
  rw [if_pos (by omega), e1, e2, if_pos (by omega), if_pos (by omega), if_pos (by rw [iN_length]; omega), Int.toNat_natCast, shr32 _ _ (by omega), wrap_id (by omega)]
  have e3 : ((x / 2 ^ (8 * i) : Nat) : Int) % 256 = ((x / 2 ^ (8 * i) % 256 : Nat) : Int) := by omega
  rw [e3, iN_set]
  rfl
theorem seal_ev (x i : Nat) (l : List Nat) (hi : i < 4) (hl : 12 ≤ l.length) (hs : l.length ≤ 1099511627776) {r : List Int × Bool}
    (h : Ev (fun k => crc_Seal.l0 k (x : Int) (iN (l.set (8 + i) (x / 2 ^ (8 * i) % 256))) 4 ((i + 1 : Nat) : Int)) r) : Ev (fun k => crc_Seal.l0 k (x : Int) (iN l) 4 (i : Int)) r :=
  Ev.step (fun k => seal_step k x i l hi hl hs) h
theorem lay4_steps (b : List Nat) (x : Nat) : lay4 b x = (((b.set (8 + 0) (x / 2 ^ (8 * 0) % 256)).set (8 + 1) (x / 2 ^ (8 * 1) % 256)).set (8 + 2) (x / 2 ^ (8 * 2) % 256)).set (8 + 3) (x / 2 ^ (8 * 3) % 256) := by simp [lay4]
theorem seal_pure {b : List Nat} (hb : ByteN b) (hs : b.length ≤ 1099511627776) (h12 : 12 ≤ b.length) : Ev (fun k => crc_Seal.f k (iN b)) (iN (sealN b), true) := by
  obtain ⟨x, hx⟩ : ∃ x, x = crcF (blankField b) := ⟨_, rfl⟩
  have h4 : Ev (fun k => crc_Seal.l0 k (x : Int) (iN (sealN b)) 4 ((3 + 1 : Nat) : Int)) (iN (sealN b), true) :=
    Ev.step (f := fun _ => some (iN (sealN b), true)) (fun k => by simp only [crc_Seal.l0]; rw [if_neg (by decide)]) (Ev.now _)
  have eS : sealN b = lay4 b x := by rw [hx]; rfl
  rw [eS, lay4_steps] at h4
  have h3 := seal_ev x 3 _ (by decide) (by simpa using h12) (by simpa using hs) h4
  have h2 := seal_ev x 2 _ (by decide) (by simpa using h12) (by simpa using hs) h3
  have h1 := seal_ev x 1 _ (by decide) (by simpa using h12) (by simpa using hs) h2
  have h0 := seal_ev x 0 _ (by decide) h12 hs h1
  rw [← lay4_steps, ← eS, hx] at h0
  refine Ev.congr (fun k => ?_) h0
  unfold crc_Seal.f
  rw [packet_pure hb hs, if_neg (by omega), Option.bind_some, if_pos rfl]
  unfold slices_Clone_byte_byte.f
  rw [if_pos (by rw [iN_length]; omega), Option.bind_some, if_pos (by decide), if_pos (by rw [iN_length]; omega)]
  have e : ((iN b).take 12).length = 12 := by rw [List.length_take, iN_length]; omega
  have e2 : (((iN b).take 12).drop 8).length = 4 := by rw [List.length_drop, e]
  rw [e2]
  rfl
theorem seal_short {b : List Nat} (hb : ByteN b) (h12 : b.length < 12) (k : Nat) : crc_Seal.f k (iN b) = some ([], false) := by
  unfold crc_Seal.f
  rw [packet_pure hb (by omega), if_pos h12, Option.bind_some]
  rfl
/-! ### slices.Equal -/
theorem equal_loop {a b : List Nat} (hl : a.length = b.length) (hs : a.length ≤ 1099511627776) (d : Nat) : ∀ i, i ≤ a.length → a.length - i = d →
    Ev (fun k => slices_Equal_byte_byte.l0 k (iN a) (iN b) (a.length : Int) (i : Int)) (decide (a.drop i = b.drop i)) := by
  induction d with
  | zero =>
    intro i hi hd
    obtain rfl : i = a.length := by omega
    have e : decide (a.drop a.length = b.drop a.length) = true := by
      rw [List.drop_length, hl, List.drop_length]; rfl
    rw [e]
    refine Ev.step (f := fun _ => some true) (fun k => ?_) (Ev.now _)
    simp only [slices_Equal_byte_byte.l0]
    rw [if_neg (by omega)]
  | succ d ih =>
    intro i hi hd
    have h1 : i < a.length := by omega
    have h2 : i < b.length := by omega
    have ea : a[i]?.getD 0 = a[i] := by rw [List.getElem?_eq_getElem h1]; rfl
    have eb : b[i]?.getD 0 = b[i] := by rw [List.getElem?_eq_getElem h2]; rfl
    by_cases he : a[i] = b[i]
    · have e : decide (a.drop i = b.drop i) = decide (a.drop (i + 1) = b.drop (i + 1)) := by
        have da := List.drop_eq_getElem_cons h1
        have db := List.drop_eq_getElem_cons h2
        exact decide_eq_decide.mpr ⟨fun h => by rw [da, db] at h; exact (List.cons.inj h).2, fun h => by rw [da, db, he, h]⟩
      rw [e]
      refine Ev.step (fun k => ?_) (ih (i + 1) (by omega) (by omega))
      simp only [slices_Equal_byte_byte.l0]
      rw [if_pos (by omega), if_pos (by omega), if_pos (by rw [iN_length]; omega), if_pos (by rw [iN_length]; omega), rd_iN, rd_iN, ea, eb, he, if_pos rfl, wrap_id (by omega)]
      rfl
    · have e : decide (a.drop i = b.drop i) = false := by
        have da := List.drop_eq_getElem_cons h1
        have db := List.drop_eq_getElem_cons h2
        exact decide_eq_false (fun h => by rw [da, db] at h; exact he (List.cons.inj h).1)
      rw [e]
      refine Ev.step (f := fun _ => some false) (fun k => ?_) (Ev.now _)
      simp only [slices_Equal_byte_byte.l0]
      rw [if_pos (by omega), if_pos (by omega), if_pos (by rw [iN_length]; omega), if_pos (by rw [iN_length]; omega), rd_iN, rd_iN, ea, eb, if_neg (by omega)]
theorem equal_pure {a b : List Nat} (hs : a.length ≤ 1099511627776) : Ev (fun k => slices_Equal_byte_byte.f k (iN a) (iN b)) (decide (a = b)) := by
  by_cases hl : a.length = b.length
  · have h := equal_loop hl hs a.length 0 (Nat.zero_le _) (by omega)
    refine Ev.congr (fun k => ?_) h
    unfold slices_Equal_byte_byte.f
    rw [iN_length, iN_length, if_pos (by omega)]
    rfl
  · have e : decide (a = b) = false := decide_eq_false (fun h => hl (by rw [h]))
    rw [e]
    refine Ev.congr (f := fun _ => some false) (fun k => ?_) (Ev.now _)
    unfold slices_Equal_byte_byte.f
    rw [iN_length, iN_length, if_neg (by omega)]
/-! ### crc.Sealed -/
def sealedN (b : List Nat) : Bool := decide (12 ≤ b.length) && decide (sealN b = b)
theorem sealed_pure {b : List Nat} (hb : ByteN b) (hs : b.length ≤ 1099511627776) : Ev (fun k => crc_Sealed.f k (iN b)) (sealedN b) := by
  by_cases h12 : 12 ≤ b.length
  · have e : sealedN b = decide (sealN b = b) := by simp [sealedN, h12]
    rw [e]
    have h1 := seal_pure hb hs h12
    have h2 := equal_pure (a := sealN b) (b := b) (by rw [sealN, lay4_length]; exact hs)
    refine Ev.congr (fun k => ?_) (Ev.bind h1 (f := fun k bt => if bt.2 = true then (slices_Equal_byte_byte.f k bt.1 (iN b)).bind fun t => some t else some false) (Ev.congr (fun k => ?_) h2))
    · rfl
    · show (if true = true then (slices_Equal_byte_byte.f k (iN (sealN b)) (iN b)).bind (fun t => some t) else some false) = _
      rw [if_pos rfl]
      cases slices_Equal_byte_byte.f k (iN (sealN b)) (iN b) <;> rfl
  · have e : sealedN b = false := by simp [sealedN, h12]
    rw [e]
    refine Ev.congr (f := fun _ => some false) (fun k => ?_) (Ev.now _)
    unfold crc_Sealed.f
    rw [seal_short hb (by omega), Option.bind_some]
    rfl
/-! ### crc.Zeros -/
theorem zeros_pure {s : Nat} (hs : s < 4294967296) (n : Nat) (hn : n ≤ 1048576) : crc_Zeros.f (s : Int) (n : Int) = some ((4294967295 - crcN (4294967295 - s) (List.replicate n 0) : Nat) : Int) := by
  unfold crc_Zeros.f
  have hb : ByteN (List.replicate n 0) := byteN_replicate n
  have h0 : crc_add.f ((4294967295 - s : Nat) : Int) (List.replicate n 0) = some ((crcN (4294967295 - s) (List.replicate n 0) : Nat) : Int) := by
    have h := add_pure (r := 4294967295 - s) (by omega) hb
    rw [iN_replicate] at h
    exact h
  rw [if_pos (by omega), if_pos (by omega), Int.toNat_natCast, not_walk hs, h0, Option.bind_some, not_walk (crcN_lt _ (by omega))]
end Go.Proofs.Ytfhnakebfiaccaa.P
