/-
  Layer 40: SoundMatchesReference.
-/
import Derived.Test.YtgjdbnkeamjhhaaGreatDoorSzB
import Derived.Test.YtgjdbnkeamjhhaaGreatDoorSoQ
set_option linter.unusedVariables false
namespace Go.Proofs.YtgjdbnkeamjhhaaGreatDoor
open Go.RowKit
open R
set_option maxRecDepth 100000 in
theorem rlet_holds : cRLet.Holds Tryz.prog := by
  refine holdsF (cons := []) Tryz.func23 (by kernel_rfl) (by kernel_rfl) mixed (by kernel_rfl) (fun c h => by cases h) (fun p => anRLet p.1) fun p hp => ?_
  obtain ⟨s, lo, hi⟩ := p
  refine cast ?_ (rlet_vc s lo hi hp)
  kernel_rfl
set_option maxRecDepth 100000 in
theorem rvalid_holds : cRValid.Holds Tryz.prog := by
  refine holdsF (cons := [cName, cRLet]) Tryz.func10 (by kernel_rfl) (by kernel_rfl) mixed (by kernel_rfl) (fun c h => by
    rcases List.mem_cons.1 h with rfl | h
    · exact name_holds
    · obtain rfl := List.mem_singleton.1 h; exact rlet_holds) (fun p => anRValid p.2) fun p hp => ?_
  obtain ⟨lang, ws⟩ := p
  refine cast ?_ (rvalid_vc lang ws hp)
  kernel_rfl
set_option maxRecDepth 100000 in
theorem rproper_holds : cRProper.Holds Tryz.prog := by
  refine holdsF (cons := [cRLet]) Tryz.func12 (by kernel_rfl) (by kernel_rfl) mixed (by kernel_rfl) (fun c h => by obtain rfl := List.mem_singleton.1 h; exact rlet_holds) (fun p => anRProper p) fun p hp => ?_
  refine cast ?_ (rproper_vc p hp)
  kernel_rfl
set_option maxRecDepth 100000 in
theorem rrep_holds : cRRep.Holds Tryz.prog := by
  refine holdsF (cons := []) Tryz.func33 (by kernel_rfl) (by kernel_rfl) mixed (by kernel_rfl) (fun c h => by cases h) (fun p => anRRep p.1 p.2.1 p.2.2.1 p.2.2.2) fun p hp => ?_
  obtain ⟨x, y, a, b⟩ := p
  refine cast ?_ (rrep_vc x y a b hp)
  kernel_rfl
set_option maxRecDepth 100000 in
theorem rsounds_holds : cRSounds.Holds Tryz.prog := by
  refine holdsF (cons := [cRRep]) Tryz.func24 (by kernel_rfl) (by kernel_rfl) mixed (by kernel_rfl) (fun c h => by obtain rfl := List.mem_singleton.1 h; exact rrep_holds) (fun p => anRSounds p.1 p.2.1 p.2.2) fun p hp => ?_
  obtain ⟨c, x, y⟩ := p
  refine cast ?_ (rsounds_vc c x y hp)
  kernel_rfl
set_option maxRecDepth 100000 in
theorem ralike_holds : cRAlike.Holds Tryz.prog := by
  refine holdsF (cons := [cRProper, cRLet, cRSounds]) Tryz.func14 (by kernel_rfl) (by kernel_rfl) mixed (by kernel_rfl) (fun c h => by
    rcases List.mem_cons.1 h with rfl | h
    · exact rproper_holds
    rcases List.mem_cons.1 h with rfl | h
    · exact rlet_holds
    · obtain rfl := List.mem_singleton.1 h; exact rsounds_holds) (fun _ => []) fun p hp => ?_
  obtain ⟨c, x, y⟩ := p
  refine cast ?_ (ralike_vc c x y hp)
  kernel_rfl
set_option maxRecDepth 100000 in
theorem rnear_holds : cRNear.Holds Tryz.prog := by
  refine holdsF (cons := [cRValid, cRProper, cRLet, cRSounds]) Tryz.func8 (by kernel_rfl) (by kernel_rfl) mixed (by kernel_rfl) (fun c h => by
    rcases List.mem_cons.1 h with rfl | h
    · exact rvalid_holds
    rcases List.mem_cons.1 h with rfl | h
    · exact rproper_holds
    rcases List.mem_cons.1 h with rfl | h
    · exact rlet_holds
    · obtain rfl := List.mem_singleton.1 h; exact rsounds_holds) (fun p => anRNear p.1.2 p.2.1 p.2.2) fun p hp => ?_
  obtain ⟨⟨lang, ws⟩, c, x⟩ := p
  refine cast ?_ (rnear_vc lang ws c x hp)
  kernel_rfl
set_option maxRecDepth 100000 in
theorem match_holds : cMatch.Holds Tryz.prog := by
  refine holdsF (cons := consMatch) Tryz.func3 (by kernel_rfl) (by kernel_rfl) mixed (by kernel_rfl) (fun c h => by
    unfold consMatch at h
    rcases List.mem_cons.1 h with rfl | h
    · exact head_holds
    rcases List.mem_cons.1 h with rfl | h
    · exact fewL_holds
    rcases List.mem_cons.1 h with rfl | h
    · exact fewW_holds
    rcases List.mem_cons.1 h with rfl | h
    · exact near_holds
    rcases List.mem_cons.1 h with rfl | h
    · exact rnear_holds
    rcases List.mem_cons.1 h with rfl | h
    · exact valid_holds
    rcases List.mem_cons.1 h with rfl | h
    · exact rvalid_holds
    rcases List.mem_cons.1 h with rfl | h
    · exact proper_holds
    rcases List.mem_cons.1 h with rfl | h
    · exact rproper_holds
    rcases List.mem_cons.1 h with rfl | h
    · exact alike_holds
    rcases List.mem_cons.1 h with rfl | h
    · exact ralike_holds
    · obtain rfl := List.mem_singleton.1 h; exact ints_holds) (fun _ => []) fun p hp => ?_
  obtain ⟨⟨lang, ws⟩, c, x, y⟩ := p
  refine cast ?_ (match_vc lang ws c x y hp)
  kernel_rfl
end Go.Proofs.YtgjdbnkeamjhhaaGreatDoor
