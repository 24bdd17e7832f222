/- Layer 15, the plain side: the page's example, and the law TokenLooks. No program in sight. -/
import Derived.Test.YtekfemiomdpahaaDoorPureTokB
import Derived.Test.YtekfemiomdpahaaDoorHx16
namespace Go.Proofs.YtekfemiomdpahaaDoor.Pure
open Go.RowKit Go.Proofs.YtekfemiomdpahaaDoor.Hx Go.Proofs.YtekfemiomdpahaaDoorW.PrintWords Go.Proofs.YtekfemiomdpahaaDoorW.PrintLast Go.Proofs.YtekfemiomdpahaaDoorW.PrintMore
set_option linter.unusedVariables false
def zz : ByteArray := ⟨(List.replicate 64 (48 : UInt8)).toArray⟩
theorem zeros_true : stowagelaw15_zeros.f 66 = some zz := by kernel_rfl
def e0 : Held := ⟨⟨#[116]⟩, zz, ⟨#[100, 111, 110, 101]⟩, 3⟩
theorem small0 : Small [] := ⟨by simp, fun y h => by cases h⟩
theorem small1 : Small [e0] := ⟨by simp, fun y h => by
  obtain rfl := List.mem_singleton.1 h
  exact ⟨of_decide_eq_true (by kernel_rfl), of_decide_eq_true (by kernel_rfl)⟩⟩
theorem may0 (k : Nat) (hk : 5242881 ≤ k) : token_may.f k (⟨#[116]⟩ : ByteArray) zz (⟨#[100, 111, 110, 101]⟩ : ByteArray) 3 = some true := by
  rw [may_eq _ _ _ _ (of_decide_eq_true (by kernel_rfl)) (of_decide_eq_true (by kernel_rfl)) k (by omega)]
  kernel_rfl
theorem awake_note (k : Nat) (hk : 5242881 ≤ k) : token_Note.f k ([] : List Held) (⟨#[116]⟩ : ByteArray) zz (⟨#[100, 111, 110, 101]⟩ : ByteArray) 3 = some ([e0], 0) := by
  unfold token_Note.f
  rw [right_eq [] small0 k hk, show tableOk [] = true from rfl, Option.bind_some, if_pos rfl, may0 k hk, Option.bind_some, if_pos rfl, show token_find.f ([] : List Held) (⟨#[116]⟩ : ByteArray) = some (0, false) by kernel_rfl]
  kernel_rfl
theorem awake_look (k : Nat) (hk : 5242881 ≤ k) (s : ByteArray) : token_Look.f k [e0] (⟨#[116]⟩ : ByteArray) s = if zz.toList = s.toList then some (1, (⟨#[100, 111, 110, 101]⟩ : ByteArray)) else some (2, (⟨#[]⟩ : ByteArray)) := by
  unfold token_Look.f
  rw [right_eq [e0] small1 k hk, show tableOk [e0] = true by kernel_rfl, Option.bind_some, if_pos rfl, show token_find.f [e0] (⟨#[116]⟩ : ByteArray) = some (0, true) by kernel_rfl, Option.bind_some, if_pos rfl, if_pos (by decide), if_pos (by decide)]
  rfl
theorem awake_look0 (k : Nat) (hk : 5242881 ≤ k) (s : ByteArray) : token_Look.f k [] (⟨#[116]⟩ : ByteArray) s = some (0, (⟨#[]⟩ : ByteArray)) := by
  unfold token_Look.f
  rw [right_eq [] small0 k hk, show tableOk [] = true from rfl, Option.bind_some, if_pos rfl, show token_find.f ([] : List Held) (⟨#[116]⟩ : ByteArray) = some (0, false) by kernel_rfl]
  rfl
theorem awake_expire (k : Nat) (hk : 5242881 ≤ k) : token_Expire.f k [e0] 3 = some ([], 1) := by
  unfold token_Expire.f
  rw [right_eq [e0] small1 k hk, show tableOk [e0] = true by kernel_rfl, Option.bind_some, if_pos rfl]
  kernel_rfl
theorem awake_at (k : Nat) (hk : 5242881 ≤ k) : stowagelaw15_awake.f k = some true := by
  unfold stowagelaw15_awake.f
  rw [at_rounds stowagelaw15_zeros.mono (show 66 ≤ k by omega) zeros_true]
  simp only [Option.bind_some]
  rw [awake_note k hk]
  simp only [Option.bind_some]
  rw [awake_look k hk, awake_look k hk, awake_expire k hk, if_pos rfl, if_neg (by rw [ByteArray.toList_eq, ByteArray.toList_eq]; decide +kernel)]
  simp only [Option.bind_some]
  rw [awake_look0 k hk]
  simp only [ByteArray.toList_eq]
  kernel_rfl
theorem TokenLooks_true (l : List Held) (t s : ByteArray) (hs : Small l) : ∃ k, stowagelaw15_TokenLooks.f k l t s = some true := by
  refine ⟨6291460, ?_⟩
  obtain ⟨a, u, h1, h2⟩ := look_eq l hs t s 6291460 (Nat.le_refl _)
  unfold stowagelaw15_TokenLooks.f
  rw [h1, refs_eq l hs.1 6291460 (by omega), awake_at 6291460 (by omega)]
  simp only [Option.bind_some]
  rw [h2]
  simp only [Option.bind_some]
  simp
end Go.Proofs.YtekfemiomdpahaaDoor.Pure
