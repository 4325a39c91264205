/- What the printed functions of the reference's packets come to, as lists of numbers: Fast, Packet, Seal, Sealed, Same. -/
import Derived.Test.YtfhnakebfiaccaaP12
import Derived.Test.YtfhnakebfiaccaaPureC
namespace Go.Proofs.Ytfhnakebfiaccaa.P
open Go.RowKit Go.Proofs.Ytfhnakebfiaccaa.M Go.Proofs.YtfhnakebfiaccaaW.PrintWords Go.Proofs.YtfhnakebfiaccaaW.PrintLast Go.Proofs.YtfhnakebfiaccaaW.PrintMore

theorem fast_pure {b : List Nat} (hb : ByteN b) : wharfref05_Fast.f (iN b) = some ((crcF b : Nat) : Int) := by
  unfold wharfref05_Fast.f
  rw [if_pos (bytes_iN hb), toN_iN]
  rfl
/-! ### the field -/
theorem blankField_length {b : List Nat} (h : 12 ≤ b.length) : (blankField b).length = b.length := by simp [blankField]; omega
theorem blankField_get {b : List Nat} (h : 12 ≤ b.length) (i : Nat) : (blankField b)[i]? = if 8 ≤ i ∧ i < 12 then some 0 else b[i]? := by
  unfold blankField
  by_cases h1 : i < 8
  · rw [if_neg (by omega), List.append_assoc, List.getElem?_append_left (by rw [List.length_take]; omega), List.getElem?_take, if_pos h1]
  · by_cases h2 : i < 12
    · rw [if_pos ⟨by omega, h2⟩, List.append_assoc, List.getElem?_append_right (by rw [List.length_take]; omega), List.getElem?_append_left (by rw [List.length_take, List.length_replicate]; omega), List.getElem?_replicate, if_pos (by rw [List.length_take]; omega)]
    · rw [if_neg (by omega), List.getElem?_append_right (by simp; omega), List.getElem?_drop]
      congr 1
      simp
      omega
theorem set4 (b : List Nat) (p q r s i : Nat) (h : 12 ≤ b.length) : ((((b.set 8 p).set 9 q).set 10 r).set 11 s)[i]? = if i = 8 then some p else if i = 9 then some q else if i = 10 then some r else if i = 11 then some s else b[i]? := by
  simp only [List.getElem?_set, List.length_set]
  by_cases h8 : i = 8
  · subst h8; simp; omega
  · by_cases h9 : i = 9
    · subst h9; simp; omega
    · by_cases h10 : i = 10
      · subst h10; simp; omega
      · by_cases h11 : i = 11
        · subst h11; simp; omega
        · rw [if_neg (by omega), if_neg (by omega), if_neg (by omega), if_neg (by omega), if_neg h8, if_neg h9, if_neg h10, if_neg h11]
theorem blank_set {b : List Nat} (h : 12 ≤ b.length) : (((b.set 8 0).set 9 0).set 10 0).set 11 0 = blankField b := by
  apply List.ext_getElem?
  intro i
  rw [set4 _ _ _ _ _ _ h, blankField_get h]
  by_cases h1 : 8 ≤ i ∧ i < 12
  · rw [if_pos h1]
    rcases (show i = 8 ∨ i = 9 ∨ i = 10 ∨ i = 11 by omega) with rfl | rfl | rfl | rfl <;> rfl
  · rw [if_neg h1, if_neg (by omega), if_neg (by omega), if_neg (by omega), if_neg (by omega)]
theorem lay4_get (b : List Nat) (x i : Nat) (h : 12 ≤ b.length) : (lay4 b x)[i]? = if i = 8 then some (x % 256) else if i = 9 then some (x / 256 % 256) else if i = 10 then some (x / 65536 % 256) else if i = 11 then some (x / 16777216 % 256) else b[i]? := set4 b _ _ _ _ i h
theorem blank_lay4 {b : List Nat} (h : 12 ≤ b.length) (x : Nat) : blankField (lay4 b x) = blankField b := by
  apply List.ext_getElem?
  intro i
  rw [blankField_get (by rw [lay4_length]; exact h), blankField_get h, lay4_get _ _ _ h]
  by_cases h1 : 8 ≤ i ∧ i < 12
  · rw [if_pos h1, if_pos h1]
  · rw [if_neg h1, if_neg h1, if_neg (by omega), if_neg (by omega), if_neg (by omega), if_neg (by omega)]
theorem lay4_lay4 {b : List Nat} (h : 12 ≤ b.length) (x y : Nat) : lay4 (lay4 b x) y = lay4 b y := by
  apply List.ext_getElem?
  intro i
  rw [lay4_get _ _ _ (by rw [lay4_length]; exact h), lay4_get _ _ _ h, lay4_get _ _ _ h]
  split
  · rfl
  · split
    · rfl
    · split
      · rfl
      · split <;> rfl
theorem sealN_sealN {b : List Nat} (h : 12 ≤ b.length) : sealN (sealN b) = sealN b := by
  unfold sealN
  rw [blank_lay4 h, lay4_lay4 h]
theorem sealN_length (b : List Nat) : (sealN b).length = b.length := lay4_length _ _
theorem sealed_sealN {b : List Nat} (h : 12 ≤ b.length) : sealedN (sealN b) = true := by
  unfold sealedN
  rw [sealN_sealN h, sealN_length]
  simp [h]
theorem byteN_set {b : List Nat} (hb : ByteN b) (i x : Nat) (hx : x < 256) : ByteN (b.set i x) := by
  intro y hy
  rcases List.mem_or_eq_of_mem_set hy with h | h
  · exact hb y h
  · rw [h]; exact hx
theorem byteN_lay4 {b : List Nat} (hb : ByteN b) (x : Nat) : ByteN (lay4 b x) :=
  byteN_set (byteN_set (byteN_set (byteN_set hb _ _ (Nat.mod_lt _ (by decide))) _ _ (Nat.mod_lt _ (by decide))) _ _ (Nat.mod_lt _ (by decide))) _ _ (Nat.mod_lt _ (by decide))
theorem byteN_sealN {b : List Nat} (hb : ByteN b) : ByteN (sealN b) := byteN_lay4 hb _
theorem byteN_blank {b : List Nat} (hb : ByteN b) : ByteN (blankField b) := by
  intro x hx
  unfold blankField at hx
  rcases List.mem_append.1 hx with h | h
  · rcases List.mem_append.1 h with h | h
    · exact hb x (List.mem_of_mem_take h)
    · rw [List.eq_of_mem_replicate h]; decide
  · exact hb x (List.mem_of_mem_drop h)
/-! ### the reference's Packet -/
theorem refPacket_step (k i : Nat) (l : List Nat) (hi : i < 12) (hl : i < l.length) : wharfref05_Packet.l0 (k + 1) (iN l) (i : Int) = wharfref05_Packet.l0 k (iN (l.set i 0)) ((i + 1 : Nat) : Int) := by
  simp only [wharfref05_Packet.l0]
  rw [if_pos (by omega), if_pos (by omega), if_pos (by rw [iN_length]; omega), Int.toNat_natCast, wrap_id (by omega)]
  have e : (iN l).set i 0 = iN (l.set i 0) := iN_set l i 0
  rw [e]
  rfl
theorem refPacket_ev (i : Nat) (l : List Nat) (hi : i < 12) (hl : i < l.length) {r : Int} (h : Ev (fun k => wharfref05_Packet.l0 k (iN (l.set i 0)) ((i + 1 : Nat) : Int)) r) : Ev (fun k => wharfref05_Packet.l0 k (iN l) (i : Int)) r :=
  Ev.step (fun k => refPacket_step k i l hi hl) h
theorem refPacket_pure {b : List Nat} (hb : ByteN b) (hs : b.length ≤ 1099511627776) (h12 : 12 ≤ b.length) : Ev (fun k => wharfref05_Packet.f k (iN b)) ((crcF (blankField b) : Nat) : Int) := by
  have h4 : Ev (fun k => wharfref05_Packet.l0 k (iN ((((b.set 8 0).set 9 0).set 10 0).set 11 0)) ((11 + 1 : Nat) : Int)) ((crcF (blankField b) : Nat) : Int) := by
    rw [blank_set h12]
    refine Ev.step (f := fun _ => some ((crcF (blankField b) : Nat) : Int)) (fun k => ?_) (Ev.now _)
    simp only [wharfref05_Packet.l0]
    rw [if_neg (by decide), fast_pure (byteN_blank hb)]
    rfl
  have h3 := refPacket_ev 11 _ (by decide) (by simp; omega) h4
  have h2 := refPacket_ev 10 _ (by decide) (by simp; omega) h3
  have h1 := refPacket_ev 9 _ (by decide) (by simp; omega) h2
  have h0 := refPacket_ev 8 b (by decide) (by omega) h1
  refine Ev.congr (fun k => ?_) h0
  unfold wharfref05_Packet.f
  rw [Option.bind_some, if_pos (by rw [iN_length, List.length_nil]; omega), List.nil_append]
  rfl
/-! ### the reference's Seal -/
theorem refSeal_step (k x i : Nat) (l : List Nat) (hx : x < 4294967296) (hi : i < 12) (hl : i < l.length) :
    wharfref05_Seal.l0 (k + 1) (iN l) (x : Int) (i : Int) = wharfref05_Seal.l0 k (iN (l.set i (x % 256))) ((x / 256 : Nat) : Int) ((i + 1 : Nat) : Int) := by
  simp only [wharfref05_Seal.l0]
  have e1 : Int.tmod (x : Int) 256 % 256 = ((x % 256 : Nat) : Int) := by
    rw [show Int.tmod (x : Int) 256 = ((x % 256 : Nat) : Int) from rfl]
    omega
  have e2 : Int.tdiv (x : Int) 256 % 4294967296 = ((x / 256 : Nat) : Int) := by
    rw [show Int.tdiv (x : Int) 256 = ((x / 256 : Nat) : Int) from rfl]
    omega
  rw [if_pos (by omega), if_pos (by omega), if_pos (by rw [iN_length]; omega), Int.toNat_natCast, e1, e2, iN_set, wrap_id (by omega)]
  rfl
theorem refSeal_ev (x i : Nat) (l : List Nat) (hx : x < 4294967296) (hi : i < 12) (hl : i < l.length) {r : List Int} (h : Ev (fun k => wharfref05_Seal.l0 k (iN (l.set i (x % 256))) ((x / 256 : Nat) : Int) ((i + 1 : Nat) : Int)) r) : Ev (fun k => wharfref05_Seal.l0 k (iN l) (x : Int) (i : Int)) r :=
  Ev.step (fun k => refSeal_step k x i l hx hi hl) h
theorem refSeal_pure {b : List Nat} (hb : ByteN b) (hs : b.length ≤ 1099511627776) (h12 : 12 ≤ b.length) : Ev (fun k => wharfref05_Seal.f k (iN b)) (iN (sealN b)) := by
  obtain ⟨x, hx⟩ : ∃ x, x = crcF (blankField b) := ⟨_, rfl⟩
  have hxl : x < 4294967296 := by rw [hx]; exact crcF_lt _
  have e4 : (((b.set 8 (x % 256)).set 9 (x / 256 % 256)).set 10 (x / 256 / 256 % 256)).set 11 (x / 256 / 256 / 256 % 256) = sealN b := by
    have e : sealN b = lay4 b x := by rw [hx]; rfl
    rw [e, lay4, Nat.div_div_eq_div_mul, Nat.div_div_eq_div_mul]
  have h4 : Ev (fun k => wharfref05_Seal.l0 k (iN ((((b.set 8 (x % 256)).set 9 (x / 256 % 256)).set 10 (x / 256 / 256 % 256)).set 11 (x / 256 / 256 / 256 % 256))) ((x / 256 / 256 / 256 / 256 : Nat) : Int) ((11 + 1 : Nat) : Int)) (iN (sealN b)) := by
    rw [e4]
    refine Ev.step (f := fun _ => some (iN (sealN b))) (fun k => ?_) (Ev.now _)
    simp only [wharfref05_Seal.l0]
    rw [if_neg (by decide)]
  have h3 := refSeal_ev (x / 256 / 256 / 256) 11 _ (by omega) (by decide) (by simp; omega) h4
  have h2 := refSeal_ev (x / 256 / 256) 10 _ (by omega) (by decide) (by simp; omega) h3
  have h1 := refSeal_ev (x / 256) 9 _ (by omega) (by decide) (by simp; omega) h2
  have h0 := refSeal_ev x 8 b hxl (by decide) (by omega) h1
  have hp := refPacket_pure hb hs h12
  rw [← hx] at hp
  refine Ev.congr (fun k => ?_) (Ev.bind hp (f := fun k t => wharfref05_Seal.l0 k (iN b) t 8) h0)
  unfold wharfref05_Seal.f
  rw [Option.bind_some, if_pos (by rw [iN_length, List.length_nil]; omega), List.nil_append]
/-! ### the reference's Sealed -/
theorem sealN_eq {b : List Nat} (h : 12 ≤ b.length) : sealN b = b ↔ ((sealN b)[8]?.getD 0 = b[8]?.getD 0 ∧ (sealN b)[9]?.getD 0 = b[9]?.getD 0 ∧ (sealN b)[10]?.getD 0 = b[10]?.getD 0 ∧ (sealN b)[11]?.getD 0 = b[11]?.getD 0) := by
  constructor
  · intro e
    rw [e]
    exact ⟨rfl, rfl, rfl, rfl⟩
  · rintro ⟨h8, h9, h10, h11⟩
    have hl := sealN_length b
    apply List.ext_getElem?
    intro i
    have key : ∀ j, j < b.length → (sealN b)[j]?.getD 0 = b[j]?.getD 0 → (sealN b)[j]? = b[j]? := fun j hj e => by
      rw [List.getElem?_eq_getElem (by rw [hl]; exact hj), List.getElem?_eq_getElem hj] at e ⊢
      exact congrArg some e
    by_cases h1 : 8 ≤ i ∧ i < 12
    · rcases (show i = 8 ∨ i = 9 ∨ i = 10 ∨ i = 11 by omega) with rfl | rfl | rfl | rfl
      · exact key _ (by omega) h8
      · exact key _ (by omega) h9
      · exact key _ (by omega) h10
      · exact key _ (by omega) h11
    · unfold sealN
      rw [lay4_get _ _ _ h, if_neg (by omega), if_neg (by omega), if_neg (by omega), if_neg (by omega)]
theorem refSealed_pure {b : List Nat} (hb : ByteN b) (hs : b.length ≤ 1099511627776) : Ev (fun k => wharfref05_Sealed.f k (iN b)) (sealedN b) := by
  by_cases h12 : 12 ≤ b.length
  · have hl : (iN (sealN b)).length = b.length := by rw [iN_length, sealN_length]
    have hl2 : (iN b).length = b.length := iN_length b
    have e : sealedN b = decide (sealN b = b) := by simp [sealedN, h12]
    rw [e]
    refine Ev.congr (fun k => ?_) (Ev.bind (refSeal_pure hb hs h12) (f := fun _ t => if 8 < (t.length : Int) then (if 8 < ((iN b).length : Int) then (if (rd t 8) = (rd (iN b) 8) then (if 9 < (t.length : Int) then (if 9 < ((iN b).length : Int) then (if (rd t 9) = (rd (iN b) 9) then (if 10 < (t.length : Int) then (if 10 < ((iN b).length : Int) then (if (rd t 10) = (rd (iN b) 10) then (if 11 < (t.length : Int) then (if 11 < ((iN b).length : Int) then (some ((rd t 11) == (rd (iN b) 11))) else (none)) else (none)) else (some false)) else (none)) else (none)) else (some false)) else (none)) else (none)) else (some false)) else (none)) else (none)) ?_)
    · unfold wharfref05_Sealed.f
      rw [if_neg (by rw [hl2]; omega)]
    · refine Ev.congr (f := fun _ => some (decide (sealN b = b))) (fun k => ?_) (Ev.now _)
      have r8 : ∀ l : List Nat, rd (iN l) 8 = ((l[8]?.getD 0 : Nat) : Int) := fun l => rd_iN l 8
      have r9 : ∀ l : List Nat, rd (iN l) 9 = ((l[9]?.getD 0 : Nat) : Int) := fun l => rd_iN l 9
      have r10 : ∀ l : List Nat, rd (iN l) 10 = ((l[10]?.getD 0 : Nat) : Int) := fun l => rd_iN l 10
      have r11 : ∀ l : List Nat, rd (iN l) 11 = ((l[11]?.getD 0 : Nat) : Int) := fun l => rd_iN l 11
      rw [hl, hl2, r8, r8, r9, r9, r10, r10, r11, r11]
      have c8 : (8 : Int) < (b.length : Int) := by omega
      have c9 : (9 : Int) < (b.length : Int) := by omega
      have c10 : (10 : Int) < (b.length : Int) := by omega
      have c11 : (11 : Int) < (b.length : Int) := by omega
      rw [if_pos c8, if_pos c8]
      by_cases e8 : (sealN b)[8]?.getD 0 = b[8]?.getD 0
      · rw [if_pos (by omega), if_pos c9, if_pos c9]
        by_cases e9 : (sealN b)[9]?.getD 0 = b[9]?.getD 0
        · rw [if_pos (by omega), if_pos c10, if_pos c10]
          by_cases e10 : (sealN b)[10]?.getD 0 = b[10]?.getD 0
          · rw [if_pos (by omega), if_pos c11, if_pos c11]
            congr 1
            by_cases e11 : (sealN b)[11]?.getD 0 = b[11]?.getD 0
            · rw [decide_eq_true ((sealN_eq h12).2 ⟨e8, e9, e10, e11⟩), e11]
              exact beq_self_eq_true _
            · rw [decide_eq_false (fun h => e11 ((sealN_eq h12).1 h).2.2.2)]
              exact beq_eq_false_iff_ne.2 (by omega)
          · rw [if_neg (by omega), decide_eq_false (fun h => e10 ((sealN_eq h12).1 h).2.2.1)]
        · rw [if_neg (by omega), decide_eq_false (fun h => e9 ((sealN_eq h12).1 h).2.1)]
      · rw [if_neg (by omega), decide_eq_false (fun h => e8 ((sealN_eq h12).1 h).1)]
  · have e : sealedN b = false := by simp [sealedN, h12]
    rw [e]
    refine Ev.congr (f := fun _ => some false) (fun k => ?_) (Ev.now _)
    unfold wharfref05_Sealed.f
    rw [if_pos (by rw [iN_length]; omega)]
/-! ### Same -/
theorem same_loop (a : List Nat) (hs : a.length ≤ 1099511627776) (d : Nat) : ∀ i, i ≤ a.length → a.length - i = d →
    Ev (fun k => wharfref01_Same.l0 k (iN a) (iN a) (i : Int)) true := by
  induction d with
  | zero =>
    intro i hi hd
    refine Ev.step (f := fun _ => some true) (fun k => ?_) (Ev.now _)
    simp only [wharfref01_Same.l0]
    rw [if_neg (by rw [iN_length]; omega)]
  | succ d ih =>
    intro i hi hd
    refine Ev.step (fun k => ?_) (ih (i + 1) (by omega) (by omega))
    simp only [wharfref01_Same.l0]
    rw [if_pos (by rw [iN_length]; omega), if_pos (by omega), if_pos (by rw [iN_length]; omega), if_pos trivial, wrap_id (by omega)]
    rfl
theorem same_pure (a : List Nat) (hs : a.length ≤ 1099511627776) : Ev (fun k => wharfref01_Same.f k (iN a) (iN a)) true := by
  refine Ev.congr (fun k => ?_) (same_loop a hs a.length 0 (Nat.zero_le _) (by omega))
  unfold wharfref01_Same.f
  rw [if_pos rfl]
  rfl
end Go.Proofs.Ytfhnakebfiaccaa.P
