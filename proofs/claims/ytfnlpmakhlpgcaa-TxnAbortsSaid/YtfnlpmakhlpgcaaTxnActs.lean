/- Each act leaves both in one state. -/
import Derived.Test.YtfnlpmakhlpgcaaTxnAct3
namespace Go.Proofs.Ytfnlpmakhlpgcaa.Nvm
open Go.RowKit Go.Proofs.Ytfnlpmakhlpgcaa.Base
/-- What an act comes to. -/
def astep (s : St) (d at_ v : Int) : St :=
  if d = 0 then (tput s at_ v).1 else if d = 1 then (tputb s at_ (IntKind.u8.wrap v)).1 else if d = 2 then (traw s at_ (IntKind.u8.wrap v)).1 else if d = 3 then s else if d = 4 then s else if d = 5 then (tbegin s).1 else if d = 6 then (tcommit s).1
  else if d = 7 then (tabort s).1 else if d = 8 then (trecover s).1 else if d = 9 then (s.cut (IntKind.i64.wrap (v.tmod 40))).1 else if d = 10 then (trecover s.on).1 else s
theorem act_any {w w0 : World} {F G : Nat → Prop} {P T Q N M : Nat} {s : St} (h : Tw w F G P T Q N M s w0) (d at_ v : Int) (a1 : at_ ≤ 9223372036854775807) (v0 : 0 ≤ v) (v1 : v ≤ 65535) :
    Calls Try.prog 48 #[.pointer (some ⟨P, 0, none⟩), .agg #[.int .i64 d, .int .i64 at_, .int .u16 v]] w0 fun e w' => ∃ F', e = .returned (.bool true) ∧ Tw w F' G P T Q N M (astep s d at_ v) w' := by
  have lift : ∀ {R : St}, Calls Try.prog 48 #[.pointer (some ⟨P, 0, none⟩), .agg #[.int .i64 d, .int .i64 at_, .int .u16 v]] w0 (fun e w' => e = .returned (.bool true) ∧ Tw w F G P T Q N M R w') → astep s d at_ v = R →
      Calls Try.prog 48 #[.pointer (some ⟨P, 0, none⟩), .agg #[.int .i64 d, .int .i64 at_, .int .u16 v]] w0 fun e w' => ∃ F', e = .returned (.bool true) ∧ Tw w F' G P T Q N M (astep s d at_ v) w' := fun hc he => hc.mono (by
    rintro e w' ⟨rfl, t⟩
    exact ⟨F, rfl, he ▸ t⟩)
  have b := wr8b v
  by_cases c0 : d = 0
  · subst c0; exact lift (act_put h at_ v _ _ (Lib.hid fun wx t => tput_tx t at_ v v0 v1) (Lib.hid fun wx t => trput_tx t at_ v v0 v1)) rfl
  by_cases c1 : d = 1
  · subst c1; exact lift (act_putb h at_ v _ _ (Lib.hid fun wx t => tputb_tx t at_ _ a1 b.1 b.2) (Lib.hid fun wx t => trputb_tx t at_ _ a1 b.1 b.2)) rfl
  by_cases c2 : d = 2
  · subst c2; exact lift (act_raw h at_ v _ _ (Lib.hid fun wx t => traw_tx t at_ _ a1 b.1 b.2) (Lib.hid fun wx t => trraw_tx t at_ _ a1 b.1 b.2)) rfl
  by_cases c3 : d = 3
  · subst c3; exact lift (act_word h at_ v _ _ (Lib.hid fun wx t => word_tx t at_) (Lib.hid fun wx t => rtword_tx t at_)) rfl
  by_cases c4 : d = 4
  · subst c4; exact lift (act_byte h at_ v _ _ (Lib.hid fun wx t => (tbyte_tx t at_ a1).mono (by rintro e w' ⟨rfl, rfl⟩; exact ⟨rfl, Ch.refl _ _⟩)) (Lib.hid fun wx t => (rtbyte_tx t at_ a1).mono (by rintro e w' ⟨rfl, rfl⟩; exact ⟨rfl, Ch.refl _ _⟩))) rfl
  by_cases c5 : d = 5
  · subst c5; exact lift (act_begin h at_ v _ _ (Lib.hid fun wx t => tbegin_tx t) (Lib.hid fun wx t => trbegin_tx t)) rfl
  by_cases c6 : d = 6
  · subst c6; exact lift (act_commit h at_ v _ _ (Lib.hid fun wx t => tcommit_tx t) (Lib.hid fun wx t => trcommit_tx t)) rfl
  by_cases c7 : d = 7
  · subst c7; exact lift (act_abort h at_ v _ _ (Lib.hid fun wx t => tabort_tx t) (Lib.hid fun wx t => trabort_tx t)) rfl
  by_cases c8 : d = 8
  · subst c8; exact lift (act_recover h at_ v _ _ (Lib.hid fun wx t => trecover_tx t) (Lib.hid fun wx t => rrecover_tx t)) rfl
  by_cases c9 : d = 9
  · subst c9
    have hm : IntKind.i64.wrap (v.tmod 40) ≤ 9223372036854775807 := by
      rw [Int.tmod_eq_emod_of_nonneg v0, wr64 (by omega) (by omega)]; omega
    refine (act_cut h at_ v _ _ v0 v1 (Lib.hid fun wx t => cut_tx t _ hm) (Lib.hid fun wx t => rcut_rx t _ hm)).mono ?_
    rintro e w' ⟨F', rfl, t⟩
    exact ⟨F', rfl, t⟩
  by_cases c10 : d = 10
  · subst c10; exact lift (act_on h at_ v _ s.on _ (Lib.hid fun wx t => on_tx t) (Lib.hid fun wx t => ron_rx t) (Lib.hid fun wx t => trecover_tx t) (Lib.hid fun wx t => rrecover_tx t)) rfl
  · refine lift (act_none h d at_ v (by simpa using c0) (by simpa using c1) (by simpa using c2) (by simpa using c3) (by simpa using c4) (by simpa using c5) (by simpa using c6) (by simpa using c7) (by simpa using c8) (by simpa using c9) (by simpa using c10)) ?_
    simp only [astep, if_neg c0, if_neg c1, if_neg c2, if_neg c3, if_neg c4, if_neg c5, if_neg c6, if_neg c7, if_neg c8, if_neg c9, if_neg c10]
end Go.Proofs.Ytfnlpmakhlpgcaa.Nvm
