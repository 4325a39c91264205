/- The law CrcPackets as a statement over numbers and lists: for every list of bytes it answers true. -/
import Derived.Test.YtfhnakebfiaccaaP13
import Derived.Test.YtfhnakebfiaccaaPureD
namespace Go.Proofs.Ytfhnakebfiaccaa.Pure
open Go.RowKit Go.Proofs.Ytfhnakebfiaccaa.P Go.Proofs.Ytfhnakebfiaccaa.M Go.Proofs.YtfhnakebfiaccaaW.PrintWords Go.Proofs.YtfhnakebfiaccaaW.PrintLast

theorem bytes_wf {l : List Int} (h : ∀ x ∈ l, (Lit.int .u8 x).wf = true) : Bytes l := by
  intro x hx
  have := h x hx
  simp [Lit.wf, IntKind.min, IntKind.max, IntKind.signed, IntKind.bits] at this
  omega
theorem CrcPackets : wharflaw05_CrcPackets.Pure := by
  intro l0 _ hreach hwf
  have hB := bytes_wf hwf
  obtain ⟨b, rfl, hb⟩ : ∃ b, l0 = iN b ∧ ByteN b := ⟨toN l0, (iN_toN hB).symm, byteN_toN hB⟩
  rw [iN_length] at hreach
  refine Ev.rounds ?_
  by_cases hl : b.length > 2000
  · refine Ev.congr (f := fun k => wharflaw05_CrcPackets.j0 k (iN b) true) (fun k => ?_) (Ev.step (f := fun _ => some true) (fun k => ?_) (Ev.now _))
    · unfold wharflaw05_CrcPackets.f wharflaw05_awake.f
      rw [Option.bind_some, if_pos rfl, iN_length, decide_eq_true (by omega)]
    · simp only [wharflaw05_CrcPackets.j0]
      rfl
  · have hs : b.length ≤ 1099511627776 := by omega
    refine Ev.congr (f := fun k => wharflaw05_CrcPackets.j0 k (iN b) false) (fun k => ?_) ?_
    · unfold wharflaw05_CrcPackets.f wharflaw05_awake.f
      rw [Option.bind_some, if_pos rfl, iN_length, decide_eq_false (by omega)]
    · have hsd := sealed_pure hb hs
      have hrd := refSealed_pure hb hs
      have hsm := same_pure b hs
      by_cases h12 : b.length < 12
      · have hlast : Ev (fun k => wharflaw05_CrcPackets.j1 k (iN b) 0 false [] false false) true :=
          Ev.step (f := fun _ => some true) (fun k => by
            simp only [wharflaw05_CrcPackets.j1]
            rw [if_neg (by decide), if_pos (by rw [iN_length]; omega), if_pos trivial, if_neg (by decide)]
            rfl) (Ev.now _)
        refine Ev.step (f := fun k => (crc_Sealed.f k (iN b)).bind fun t336 => (wharfref05_Sealed.f k (iN b)).bind fun t337 => if (t336 != t337) = true then wharflaw05_CrcPackets.j1 k (iN b) 0 false [] false true else (wharfref01_Same.f k (iN b) (iN b)).bind fun t338 => wharflaw05_CrcPackets.j1 k (iN b) 0 false [] false (!t338)) (fun k => ?_) (Ev.bind hsd (Ev.bind hrd ?_))
        · simp only [wharflaw05_CrcPackets.j0]
          rw [if_neg (by decide), Option.bind_some, List.nil_append, if_pos (by rw [iN_length, List.length_nil]; omega), Option.bind_some, packet_pure hb hs, if_pos h12, Option.bind_some, seal_short hb h12, Option.bind_some]
        · refine Ev.congr (fun k => ?_) (Ev.bind hsm (f := fun k t338 => wharflaw05_CrcPackets.j1 k (iN b) 0 false [] false (!t338)) hlast)
          rw [if_neg (by simp)]
      · have h12' : 12 ≤ b.length := by omega
        have hrp := refPacket_pure hb hs h12'
        have hrs := refSeal_pure hb hs h12'
        have hsm2 := same_pure (sealN b) (by rw [sealN_length]; exact hs)
        have hss := sealed_pure (byteN_sealN hb) (by rw [sealN_length]; exact hs)
        rw [sealed_sealN h12'] at hss
        have hlast : Ev (fun k => wharflaw05_CrcPackets.j1 k (iN b) ((crcF (blankField b) : Nat) : Int) true (iN (sealN b)) true false) true := by
          refine Ev.step (f := fun k => (wharfref05_Packet.f k (iN b)).bind fun t339 => if ((crcF (blankField b) : Nat) : Int) = t339 then (if true = true then (wharfref05_Seal.f k (iN b)).bind fun t340 => (wharfref01_Same.f k (iN (sealN b)) t340).bind fun t343 => (if t343 = true then (crc_Sealed.f k (iN (sealN b))).bind fun t344 => some t344 else some false) else some false) else some false) (fun k => ?_) (Ev.bind hrp ?_)
          · simp only [wharflaw05_CrcPackets.j1]
            rw [if_neg (by decide), if_neg (by rw [iN_length]; omega), if_pos trivial]
          · refine Ev.congr (fun k => ?_) (Ev.bind hrs (f := fun k t340 => (wharfref01_Same.f k (iN (sealN b)) t340).bind fun t343 => (if t343 = true then (crc_Sealed.f k (iN (sealN b))).bind fun t344 => some t344 else some false)) (Ev.bind hsm2 ?_))
            · rw [if_pos rfl, if_pos rfl]
            · refine Ev.congr (fun k => ?_) (Ev.bind hss (f := fun _ t => some t) (Ev.now _))
              rw [if_pos rfl]
        have hsl := seal_pure hb hs h12'
        refine Ev.step (f := fun k => (crc_Seal.f k (iN b)).bind fun bt332 => (crc_Sealed.f k (iN b)).bind fun t336 => (wharfref05_Sealed.f k (iN b)).bind fun t337 => if (t336 != t337) = true then wharflaw05_CrcPackets.j1 k (iN b) ((crcF (blankField b) : Nat) : Int) true bt332.1 bt332.2 true else (wharfref01_Same.f k (iN b) (iN b)).bind fun t338 => wharflaw05_CrcPackets.j1 k (iN b) ((crcF (blankField b) : Nat) : Int) true bt332.1 bt332.2 (!t338)) (fun k => ?_) (Ev.bind hsl (Ev.bind hsd (Ev.bind hrd ?_)))
        · simp only [wharflaw05_CrcPackets.j0]
          rw [if_neg (by decide), Option.bind_some, List.nil_append, if_pos (by rw [iN_length, List.length_nil]; omega), Option.bind_some, packet_pure hb hs, if_neg h12, Option.bind_some]
        · refine Ev.congr (fun k => ?_) (Ev.bind hsm (f := fun k t338 => wharflaw05_CrcPackets.j1 k (iN b) ((crcF (blankField b) : Nat) : Int) true (iN (sealN b)) true (!t338)) hlast)
          rw [if_neg (by simp)]
end Go.Proofs.Ytfhnakebfiaccaa.Pure
