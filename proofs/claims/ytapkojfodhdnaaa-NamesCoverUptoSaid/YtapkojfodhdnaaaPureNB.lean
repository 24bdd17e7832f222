/- Layer 12, the plain side: the page's example, and the law NamesMay. No program in sight. -/
import Derived.Test.YtapkojfodhdnaaaPureNA
import Derived.Test.YtapkojfodhdnaaaHx9
namespace Go.Proofs.Ytapkojfodhdnaaa.Pure
open Go.RowKit Go.Proofs.Ytapkojfodhdnaaa.Hx Go.Proofs.YtapkojfodhdnaaaW.PrintWords Go.Proofs.YtapkojfodhdnaaaW.PrintLast Go.Proofs.YtapkojfodhdnaaaW.PrintMore
set_option linter.unusedVariables false
set_option linter.unusedSimpArgs false
/-- The items in order, told by what is in them. -/
theorem srt_spec (l : List It) (hn : l.Nodup) : (names_Fold_srt l).Pairwise (fun a b => names_Fold_lt a b = true) ∧ ∀ z, z ∈ names_Fold_srt l ↔ z ∈ l := by
  have h := strict_sort names_Fold_lt names_Fold_irr names_Fold_tr names_Fold_tot l hn
  have e : names_Fold_srt l = l.mergeSort fun x y => !names_Fold_lt y x := by
    unfold names_Fold_srt
    congr 1
    funext x y
    rw [names_Fold_lt_eq]
  rw [e]
  exact h
theorem srt_unique (l m : List It) (hn : l.Nodup) (hp : m.Pairwise (fun a b => names_Fold_lt a b = true)) (hm : ∀ z, z ∈ m ↔ z ∈ l) : names_Fold_srt l = m :=
  sorted_ext names_Fold_lt names_Fold_irr names_Fold_tr _ _ (srt_spec l hn).1 hp (fun x => ((srt_spec l hn).2 x).trans (hm x).symm)
theorem awake_its : names_Fold_its (⟨#[]⟩ : ByteArray) (⟨#[47]⟩ : ByteArray) (⟨#[]⟩ : ByteArray) [(⟨#[99]⟩ : ByteArray), (⟨#[98, 47, 49]⟩ : ByteArray), (⟨#[97]⟩ : ByteArray), (⟨#[98, 47, 50]⟩ : ByteArray)] [] = some [⟨⟨#[99]⟩, false⟩, ⟨⟨#[98, 47]⟩, true⟩, ⟨⟨#[97]⟩, false⟩] := by
  simp only [names_Fold_its, names_item.f, strings_CutPrefix.f, strings_Cut.f, ByteArray.toList_eq]
  kernel_rfl
theorem awake_srt : names_Fold_srt [⟨⟨#[99]⟩, false⟩, ⟨⟨#[98, 47]⟩, true⟩, ⟨⟨#[97]⟩, false⟩] = [⟨⟨#[97]⟩, false⟩, ⟨⟨#[98, 47]⟩, true⟩, ⟨⟨#[99]⟩, false⟩] := by
  refine srt_unique _ _ ?_ ?_ ?_
  · decide +kernel
  · simp only [List.pairwise_cons, List.mem_cons, List.not_mem_nil, or_false, forall_eq_or_imp, forall_eq, names_Fold_lt, ByteArray.toList_eq]
    refine ⟨⟨by kernel_rfl, by kernel_rfl⟩, by kernel_rfl, fun _ h => h.elim, .nil⟩
  · intro z
    simp only [List.mem_cons, List.not_mem_nil, or_false]
    constructor
    · rintro (h | h | h) <;> simp [h]
    · rintro (h | h | h) <;> simp [h]
theorem awake_fold : names_Fold.f [(⟨#[99]⟩ : ByteArray), (⟨#[98, 47, 49]⟩ : ByteArray), (⟨#[97]⟩ : ByteArray), (⟨#[98, 47, 50]⟩ : ByteArray)] (⟨#[]⟩ : ByteArray) (⟨#[47]⟩ : ByteArray) (⟨#[]⟩ : ByteArray) 9 = some ([⟨⟨#[97]⟩, false⟩, ⟨⟨#[98, 47]⟩, true⟩, ⟨⟨#[99]⟩, false⟩], false) := by
  unfold names_Fold.f
  rw [if_pos (by decide), awake_its, Option.bind_some, if_neg (by decide), awake_srt]
theorem awake_true (k : Nat) (hk : 1000 ≤ k) : stowagelaw12_awake.f k = some true := by
  unfold stowagelaw12_awake.f
  rw [awake_fold, Option.bind_some, names_Bucket_eq _ (by decide) k hk, names_Bucket_eq _ (by decide) k hk]
  simp only [Option.bind_some, ByteArray.toList_eq]
  kernel_rfl
theorem NamesMay_true (s : ByteArray) (hs : s.size ≤ 9223372036854775807) : ∃ k, stowagelaw12_NamesMay.f k s = some true := by
  refine ⟨9223372036854775808, ?_⟩
  unfold stowagelaw12_NamesMay.f
  rw [awake_true _ (by omega), Option.bind_some, if_pos rfl, names_Bucket_eq s hs _ (by omega), Option.bind_some, ref_Bucket_eq s hs _ (by omega), Option.bind_some, if_pos (by simp), names_Key_eq s hs, Option.bind_some, ref_Key_eq s hs _ (by omega), Option.bind_some, if_pos (by simp), names_Token_eq s hs _ (by omega), Option.bind_some, ref_Token_eq s hs _ (by omega), Option.bind_some]
  simp
end Go.Proofs.Ytapkojfodhdnaaa.Pure
