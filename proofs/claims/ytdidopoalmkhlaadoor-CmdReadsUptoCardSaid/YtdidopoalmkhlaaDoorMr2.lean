/- Merged of several texts of this session's by merge.py. -/
import Derived.WalkKit
import Derived.IntWalk
import Derived.Test.YtdidopoalmkhlaaDoorProg
import Derived.Test.YtdidopoalmkhlaaDoorMr1
import Derived.Lib.Hide
import Derived.LoopN
import Derived.Deep.QuietTactic
import Derived.Deep.OwnRows
import Derived.Deep.LoopGhost
import Derived.BigQuiet
import Derived.StillTailTactics
import Derived.Deep.RegionHeld3
import Derived.Laws.AppendOwn
import Derived.Lib.ConvBytes
import Derived.OwnWalk
import Derived.Laws.IdiomStrings
import Derived.Laws.BytesString
import Derived.Deep.AppendLies
import Derived.Lib.AppendStr
import Derived.Laws.MakeOwn
section
namespace Go.Proofs.YtdidopoalmkhlaaDoor.Sha
open Go
set_option linter.unusedVariables false
set_option linter.unusedSimpArgs false
@[irreducible] def U (x : BitVec 32) : Value := .int .u32 (x.toNat : Int)
@[irreducible] def Y (x : BitVec 8) : Value := .int .u8 (x.toNat : Int)
theorem U_def (x : BitVec 32) : U x = .int .u32 (x.toNat : Int) := by unfold U; rfl
theorem Y_def (x : BitVec 8) : Y x = .int .u8 (x.toNat : Int) := by unfold Y; rfl
theorem wrap32 (x : BitVec 32) : IntKind.u32.wrap (x.toNat : Int) = (x.toNat : Int) := by
 have := x.isLt
 rw [IntKind.wrap_u32]
 omega
theorem ofInt32 (x : BitVec 32) : BitVec.ofInt 32 (x.toNat : Int) = x := by simp
theorem u_and (t : TypeId) (x y : BitVec 32) : binOp .and t (U x) (U y) = pure (U (x &&& y)) := by
 rw [U_def, U_def, U_def, binOp_and]
 show (pure (Value.int .u32 (IntKind.u32.wrap ((BitVec.ofInt 32 (x.toNat : Int) &&& BitVec.ofInt 32 (y.toNat : Int)).toNat : Int))) : Sem Value) = _
 rw [ofInt32, ofInt32, wrap32]
theorem u_or (t : TypeId) (x y : BitVec 32) : binOp .or t (U x) (U y) = pure (U (x ||| y)) := by
 rw [U_def, U_def, U_def, binOp_or]
 show (pure (Value.int .u32 (IntKind.u32.wrap ((BitVec.ofInt 32 (x.toNat : Int) ||| BitVec.ofInt 32 (y.toNat : Int)).toNat : Int))) : Sem Value) = _
 rw [ofInt32, ofInt32, wrap32]
theorem u_xor (t : TypeId) (x y : BitVec 32) : binOp .xor t (U x) (U y) = pure (U (x ^^^ y)) := by
 rw [U_def, U_def, U_def, binOp_xor]
 show (pure (Value.int .u32 (IntKind.u32.wrap ((BitVec.ofInt 32 (x.toNat : Int) ^^^ BitVec.ofInt 32 (y.toNat : Int)).toNat : Int))) : Sem Value) = _
 rw [ofInt32, ofInt32, wrap32]
theorem u_add (t : TypeId) (x y : BitVec 32) : binOp .add t (U x) (U y) = pure (U (x + y)) := by
 rw [U_def, U_def, U_def, binOp_add]
 show (pure (Value.int .u32 (IntKind.u32.wrap ((x.toNat : Int) + (y.toNat : Int)))) : Sem Value) = _
 rw [IntKind.wrap_u32, BitVec.toNat_add]
 congr 2
theorem u_sub (t : TypeId) (x y : BitVec 32) : binOp .sub t (U x) (U y) = pure (U (x - y)) := by
 rw [U_def, U_def, U_def, binOp_sub]
 show (pure (Value.int .u32 (IntKind.u32.wrap ((x.toNat : Int) - (y.toNat : Int)))) : Sem Value) = _
 rw [IntKind.wrap_u32, BitVec.toNat_sub]
 have := x.isLt
 have := y.isLt
 congr 2
 omega
theorem u_mul (t : TypeId) (x y : BitVec 32) : binOp .mul t (U x) (U y) = pure (U (x * y)) := by
 rw [U_def, U_def, U_def, binOp_mul]
 show (pure (Value.int .u32 (IntKind.u32.wrap ((x.toNat : Int) * (y.toNat : Int)))) : Sem Value) = _
 rw [IntKind.wrap_u32, BitVec.toNat_mul]
 congr 2
theorem u_shl (t : TypeId) (yk : IntKind) (x : BitVec 32) (n : Nat) (hn : n ≤ 32) (m : Int) (hm : m = (n : Int)) : binOp .shl t (U x) (.int yk m) = pure (U (x <<< n)) := by
 subst hm
 rw [U_def, U_def, binOp_shl]
 unfold Op.shift
 rw [if_neg (by omega)]
 show (pure (Value.int .u32 (IntKind.u32.wrap ((x.toNat : Int) * 2 ^ (min ((n : Int).toNat) 32)))) : Sem Value) = _
 rw [IntKind.wrap_u32, Int.toNat_natCast, Nat.min_eq_left hn, BitVec.toNat_shiftLeft, Nat.shiftLeft_eq]
 congr 2
theorem u_shr (t : TypeId) (yk : IntKind) (x : BitVec 32) (n : Nat) (hn : n ≤ 32) (m : Int) (hm : m = (n : Int)) : binOp .shr t (U x) (.int yk m) = pure (U (x >>> n)) := by
 subst hm
 rw [U_def, U_def, binOp_shr]
 unfold Op.shift
 rw [if_neg (by omega)]
 show (pure (Value.int .u32 ((x.toNat : Int).fdiv (2 ^ (min ((n : Int).toNat) 32)))) : Sem Value) = _
 rw [Int.toNat_natCast, Nat.min_eq_left hn, BitVec.toNat_ushiftRight, Nat.shiftRight_eq_div_pow, Int.fdiv_eq_ediv_of_nonneg _ (Int.pow_nonneg (by omega))]
 congr 2
theorem u_shl' (t : TypeId) (yk : IntKind) (x : BitVec 32) (m : Int) (h0 : 0 ≤ m) (h1 : m ≤ 32) : binOp .shl t (U x) (.int yk m) = pure (U (x <<< m.toNat)) := u_shl t yk x m.toNat (by omega) m (by omega)
theorem u_shr' (t : TypeId) (yk : IntKind) (x : BitVec 32) (m : Int) (h0 : 0 ≤ m) (h1 : m ≤ 32) : binOp .shr t (U x) (.int yk m) = pure (U (x >>> m.toNat)) := u_shr t yk x m.toNat (by omega) m (by omega)
theorem u_shl_24 (t : TypeId) (x : BitVec 32) : binOp .shl t (U x) (.int .u64 24) = pure (U (x <<< 24)) := u_shl t _ x 24 (by omega) _ rfl
theorem u_shl_16 (t : TypeId) (x : BitVec 32) : binOp .shl t (U x) (.int .u64 16) = pure (U (x <<< 16)) := u_shl t _ x 16 (by omega) _ rfl
theorem u_shl_8 (t : TypeId) (x : BitVec 32) : binOp .shl t (U x) (.int .u64 8) = pure (U (x <<< 8)) := u_shl t _ x 8 (by omega) _ rfl
theorem u_shr_3 (t : TypeId) (x : BitVec 32) : binOp .shr t (U x) (.int .u64 3) = pure (U (x >>> 3)) := u_shr t _ x 3 (by omega) _ rfl
theorem u_shr_10 (t : TypeId) (x : BitVec 32) : binOp .shr t (U x) (.int .u64 10) = pure (U (x >>> 10)) := u_shr t _ x 10 (by omega) _ rfl
theorem u_shr_24 (t : TypeId) (x : BitVec 32) : binOp .shr t (U x) (.int .u64 24) = pure (U (x >>> 24)) := u_shr t _ x 24 (by omega) _ rfl
theorem u_shr_16 (t : TypeId) (x : BitVec 32) : binOp .shr t (U x) (.int .u64 16) = pure (U (x >>> 16)) := u_shr t _ x 16 (by omega) _ rfl
theorem u_shr_8 (t : TypeId) (x : BitVec 32) : binOp .shr t (U x) (.int .u64 8) = pure (U (x >>> 8)) := u_shr t _ x 8 (by omega) _ rfl
theorem Y_val (c : UInt8) : (.int .u8 (c.toNat : Int) : Value) = Y c.toBitVec := by rw [Y_def]; rfl
theorem y_convert {P : Program} (w : World) (src dst : TypeId) (x : BitVec 8) (hs : (P.underlying src).isSome = true) (hd : P.underlying dst = some (.int .u32)) : (convert src dst (Y x)).run P w = .ok (U (x.zeroExtend 32)) w := by
 have hk : P.intKind dst = .u32 := by unfold Program.intKind; rw [hd]
 have h := run_convert_int (P := P) w src dst .u8 (x.toNat : Int) hs (by rw [hk]; exact hd)
 rw [Y_def, h, hk, U_def, IntKind.wrap_u32]
 have := x.isLt
 congr 2
 simp
theorem u_convert8 {P : Program} (w : World) (src dst : TypeId) (x : BitVec 32) (hs : (P.underlying src).isSome = true) (hd : P.underlying dst = some (.int .u8)) : (convert src dst (U x)).run P w = .ok (Y (x.truncate 8)) w := by
 have hk : P.intKind dst = .u8 := by unfold Program.intKind; rw [hd]
 have h := run_convert_int (P := P) w src dst .u32 (x.toNat : Int) hs (by rw [hk]; exact hd)
 rw [U_def, h, hk, Y_def, IntKind.wrap_u8]
 congr 2
theorem u_not (x : BitVec 32) : Op.unary .xor (U x) = pure (U (~~~x)) := by
 rw [U_def, U_def, unary_xor]
 show (pure (Value.int .u32 (IntKind.u32.wrap ((BitVec.ofInt 32 4294967295 ^^^ BitVec.ofInt 32 (x.toNat : Int)).toNat : Int))) : Sem Value) = _
 rw [ofInt32, wrap32]
 congr 3
theorem U_cells (x : BitVec 32) : (U x).cells = #[U x] := by rw [U_def]; rfl
theorem U_one (x : BitVec 32) : (U x).oneCell' = true := by rw [U_def]; rfl
theorem Y_one (x : BitVec 8) : (Y x).oneCell' = true := by rw [Y_def]; rfl
end Go.Proofs.YtdidopoalmkhlaaDoor.Sha
end
section
namespace Go.Proofs.YtdidopoalmkhlaaDoor.Sha
open Go Go.RowKit
set_option linter.unusedVariables false
set_option linter.unusedSimpArgs false
attribute [local go_sem] u_and u_or u_xor u_add u_sub u_mul u_shl_24 u_shl_16 u_shl_8 u_shr_3 u_shr_10 u_shr_24 u_shr_16 u_shr_8 u_shl' u_shr' u_not
def rot (x : BitVec 32) (n : Nat) : BitVec 32 := (x <<< (32 - n)) ||| (x >>> n)
def Ks : List (BitVec 32) := [1116352408, 1899447441, 3049323471, 3921009573, 961987163, 1508970993, 2453635748, 2870763221, 3624381080, 310598401, 607225278, 1426881987, 1925078388, 2162078206, 2614888103, 3248222580, 3835390401, 4022224774, 264347078, 604807628, 770255983, 1249150122, 1555081692, 1996064986, 2554220882, 2821834349, 2952996808, 3210313671, 3336571891, 3584528711, 113926993, 338241895, 666307205, 773529912, 1294757372, 1396182291, 1695183700, 1986661051, 2177026350, 2456956037, 2730485921, 2820302411, 3259730800, 3345764771, 3516065817, 3600352804, 4094571909, 275423344, 430227734, 506948616, 659060556, 883997877, 958139571, 1322822218, 1537002063, 1747873779, 1955562222, 2024104815, 2227730452, 2361852424, 2428436474, 2756734187, 3204031479, 3329325298]
def IV : List (BitVec 32) := [1779033703, 3144134277, 1013904242, 2773480762, 1359893119, 2600822924, 528734635, 1541459225]
set_option maxRecDepth 100000 in
set_option maxHeartbeats 1000000 in
theorem rotate_7 (x : BitVec 32) (w : World) : Calls Tryd.prog 90 #[U x, .int .i64 (-7)] w fun e w' => e = .returned (U (rot x 7)) ∧ w' = w := by
 have h1 : IntKind.u64.wrap (-7) = 18446744073709551609 := by decide
 have h2 : Op.intBits .and .u64 18446744073709551609 31 = pure (.int .u64 25) := rfl
 go_enter Tryd.func90, Tryd.ntmps90
 go_wp2
 go_ret
 exact ⟨rfl, rfl⟩
set_option maxRecDepth 100000 in
set_option maxHeartbeats 1000000 in
theorem turn_7 (x : BitVec 32) (w : World) : Calls Tryd.prog 91 #[U x, .int .u64 7] w fun e w' => e = .returned (U (rot x 7)) ∧ w' = w := by
 go_enter Tryd.func91, Tryd.ntmps91
 go_wp2
 go_ret
 exact ⟨by show Ending.returned (U _) = _; rw [show rot x 7 = (x >>> 7) ||| (x <<< (32 - 7)) from BitVec.or_comm _ _], rfl⟩
set_option maxRecDepth 100000 in
set_option maxHeartbeats 1000000 in
theorem rotate_18 (x : BitVec 32) (w : World) : Calls Tryd.prog 90 #[U x, .int .i64 (-18)] w fun e w' => e = .returned (U (rot x 18)) ∧ w' = w := by
 have h1 : IntKind.u64.wrap (-18) = 18446744073709551598 := by decide
 have h2 : Op.intBits .and .u64 18446744073709551598 31 = pure (.int .u64 14) := rfl
 go_enter Tryd.func90, Tryd.ntmps90
 go_wp2
 go_ret
 exact ⟨rfl, rfl⟩
set_option maxRecDepth 100000 in
set_option maxHeartbeats 1000000 in
theorem turn_18 (x : BitVec 32) (w : World) : Calls Tryd.prog 91 #[U x, .int .u64 18] w fun e w' => e = .returned (U (rot x 18)) ∧ w' = w := by
 go_enter Tryd.func91, Tryd.ntmps91
 go_wp2
 go_ret
 exact ⟨by show Ending.returned (U _) = _; rw [show rot x 18 = (x >>> 18) ||| (x <<< (32 - 18)) from BitVec.or_comm _ _], rfl⟩
set_option maxRecDepth 100000 in
set_option maxHeartbeats 1000000 in
theorem rotate_17 (x : BitVec 32) (w : World) : Calls Tryd.prog 90 #[U x, .int .i64 (-17)] w fun e w' => e = .returned (U (rot x 17)) ∧ w' = w := by
 have h1 : IntKind.u64.wrap (-17) = 18446744073709551599 := by decide
 have h2 : Op.intBits .and .u64 18446744073709551599 31 = pure (.int .u64 15) := rfl
 go_enter Tryd.func90, Tryd.ntmps90
 go_wp2
 go_ret
 exact ⟨rfl, rfl⟩
set_option maxRecDepth 100000 in
set_option maxHeartbeats 1000000 in
theorem turn_17 (x : BitVec 32) (w : World) : Calls Tryd.prog 91 #[U x, .int .u64 17] w fun e w' => e = .returned (U (rot x 17)) ∧ w' = w := by
 go_enter Tryd.func91, Tryd.ntmps91
 go_wp2
 go_ret
 exact ⟨by show Ending.returned (U _) = _; rw [show rot x 17 = (x >>> 17) ||| (x <<< (32 - 17)) from BitVec.or_comm _ _], rfl⟩
set_option maxRecDepth 100000 in
set_option maxHeartbeats 1000000 in
theorem rotate_19 (x : BitVec 32) (w : World) : Calls Tryd.prog 90 #[U x, .int .i64 (-19)] w fun e w' => e = .returned (U (rot x 19)) ∧ w' = w := by
 have h1 : IntKind.u64.wrap (-19) = 18446744073709551597 := by decide
 have h2 : Op.intBits .and .u64 18446744073709551597 31 = pure (.int .u64 13) := rfl
 go_enter Tryd.func90, Tryd.ntmps90
 go_wp2
 go_ret
 exact ⟨rfl, rfl⟩
set_option maxRecDepth 100000 in
set_option maxHeartbeats 1000000 in
theorem turn_19 (x : BitVec 32) (w : World) : Calls Tryd.prog 91 #[U x, .int .u64 19] w fun e w' => e = .returned (U (rot x 19)) ∧ w' = w := by
 go_enter Tryd.func91, Tryd.ntmps91
 go_wp2
 go_ret
 exact ⟨by show Ending.returned (U _) = _; rw [show rot x 19 = (x >>> 19) ||| (x <<< (32 - 19)) from BitVec.or_comm _ _], rfl⟩
set_option maxRecDepth 100000 in
set_option maxHeartbeats 1000000 in
theorem rotate_6 (x : BitVec 32) (w : World) : Calls Tryd.prog 90 #[U x, .int .i64 (-6)] w fun e w' => e = .returned (U (rot x 6)) ∧ w' = w := by
 have h1 : IntKind.u64.wrap (-6) = 18446744073709551610 := by decide
 have h2 : Op.intBits .and .u64 18446744073709551610 31 = pure (.int .u64 26) := rfl
 go_enter Tryd.func90, Tryd.ntmps90
 go_wp2
 go_ret
 exact ⟨rfl, rfl⟩
set_option maxRecDepth 100000 in
set_option maxHeartbeats 1000000 in
theorem turn_6 (x : BitVec 32) (w : World) : Calls Tryd.prog 91 #[U x, .int .u64 6] w fun e w' => e = .returned (U (rot x 6)) ∧ w' = w := by
 go_enter Tryd.func91, Tryd.ntmps91
 go_wp2
 go_ret
 exact ⟨by show Ending.returned (U _) = _; rw [show rot x 6 = (x >>> 6) ||| (x <<< (32 - 6)) from BitVec.or_comm _ _], rfl⟩
set_option maxRecDepth 100000 in
set_option maxHeartbeats 1000000 in
theorem rotate_11 (x : BitVec 32) (w : World) : Calls Tryd.prog 90 #[U x, .int .i64 (-11)] w fun e w' => e = .returned (U (rot x 11)) ∧ w' = w := by
 have h1 : IntKind.u64.wrap (-11) = 18446744073709551605 := by decide
 have h2 : Op.intBits .and .u64 18446744073709551605 31 = pure (.int .u64 21) := rfl
 go_enter Tryd.func90, Tryd.ntmps90
 go_wp2
 go_ret
 exact ⟨rfl, rfl⟩
set_option maxRecDepth 100000 in
set_option maxHeartbeats 1000000 in
theorem turn_11 (x : BitVec 32) (w : World) : Calls Tryd.prog 91 #[U x, .int .u64 11] w fun e w' => e = .returned (U (rot x 11)) ∧ w' = w := by
 go_enter Tryd.func91, Tryd.ntmps91
 go_wp2
 go_ret
 exact ⟨by show Ending.returned (U _) = _; rw [show rot x 11 = (x >>> 11) ||| (x <<< (32 - 11)) from BitVec.or_comm _ _], rfl⟩
set_option maxRecDepth 100000 in
set_option maxHeartbeats 1000000 in
theorem rotate_25 (x : BitVec 32) (w : World) : Calls Tryd.prog 90 #[U x, .int .i64 (-25)] w fun e w' => e = .returned (U (rot x 25)) ∧ w' = w := by
 have h1 : IntKind.u64.wrap (-25) = 18446744073709551591 := by decide
 have h2 : Op.intBits .and .u64 18446744073709551591 31 = pure (.int .u64 7) := rfl
 go_enter Tryd.func90, Tryd.ntmps90
 go_wp2
 go_ret
 exact ⟨rfl, rfl⟩
set_option maxRecDepth 100000 in
set_option maxHeartbeats 1000000 in
theorem turn_25 (x : BitVec 32) (w : World) : Calls Tryd.prog 91 #[U x, .int .u64 25] w fun e w' => e = .returned (U (rot x 25)) ∧ w' = w := by
 go_enter Tryd.func91, Tryd.ntmps91
 go_wp2
 go_ret
 exact ⟨by show Ending.returned (U _) = _; rw [show rot x 25 = (x >>> 25) ||| (x <<< (32 - 25)) from BitVec.or_comm _ _], rfl⟩
set_option maxRecDepth 100000 in
set_option maxHeartbeats 1000000 in
theorem rotate_2 (x : BitVec 32) (w : World) : Calls Tryd.prog 90 #[U x, .int .i64 (-2)] w fun e w' => e = .returned (U (rot x 2)) ∧ w' = w := by
 have h1 : IntKind.u64.wrap (-2) = 18446744073709551614 := by decide
 have h2 : Op.intBits .and .u64 18446744073709551614 31 = pure (.int .u64 30) := rfl
 go_enter Tryd.func90, Tryd.ntmps90
 go_wp2
 go_ret
 exact ⟨rfl, rfl⟩
set_option maxRecDepth 100000 in
set_option maxHeartbeats 1000000 in
theorem turn_2 (x : BitVec 32) (w : World) : Calls Tryd.prog 91 #[U x, .int .u64 2] w fun e w' => e = .returned (U (rot x 2)) ∧ w' = w := by
 go_enter Tryd.func91, Tryd.ntmps91
 go_wp2
 go_ret
 exact ⟨by show Ending.returned (U _) = _; rw [show rot x 2 = (x >>> 2) ||| (x <<< (32 - 2)) from BitVec.or_comm _ _], rfl⟩
set_option maxRecDepth 100000 in
set_option maxHeartbeats 1000000 in
theorem rotate_13 (x : BitVec 32) (w : World) : Calls Tryd.prog 90 #[U x, .int .i64 (-13)] w fun e w' => e = .returned (U (rot x 13)) ∧ w' = w := by
 have h1 : IntKind.u64.wrap (-13) = 18446744073709551603 := by decide
 have h2 : Op.intBits .and .u64 18446744073709551603 31 = pure (.int .u64 19) := rfl
 go_enter Tryd.func90, Tryd.ntmps90
 go_wp2
 go_ret
 exact ⟨rfl, rfl⟩
set_option maxRecDepth 100000 in
set_option maxHeartbeats 1000000 in
theorem turn_13 (x : BitVec 32) (w : World) : Calls Tryd.prog 91 #[U x, .int .u64 13] w fun e w' => e = .returned (U (rot x 13)) ∧ w' = w := by
 go_enter Tryd.func91, Tryd.ntmps91
 go_wp2
 go_ret
 exact ⟨by show Ending.returned (U _) = _; rw [show rot x 13 = (x >>> 13) ||| (x <<< (32 - 13)) from BitVec.or_comm _ _], rfl⟩
set_option maxRecDepth 100000 in
set_option maxHeartbeats 1000000 in
theorem rotate_22 (x : BitVec 32) (w : World) : Calls Tryd.prog 90 #[U x, .int .i64 (-22)] w fun e w' => e = .returned (U (rot x 22)) ∧ w' = w := by
 have h1 : IntKind.u64.wrap (-22) = 18446744073709551594 := by decide
 have h2 : Op.intBits .and .u64 18446744073709551594 31 = pure (.int .u64 10) := rfl
 go_enter Tryd.func90, Tryd.ntmps90
 go_wp2
 go_ret
 exact ⟨rfl, rfl⟩
set_option maxRecDepth 100000 in
set_option maxHeartbeats 1000000 in
theorem turn_22 (x : BitVec 32) (w : World) : Calls Tryd.prog 91 #[U x, .int .u64 22] w fun e w' => e = .returned (U (rot x 22)) ∧ w' = w := by
 go_enter Tryd.func91, Tryd.ntmps91
 go_wp2
 go_ret
 exact ⟨by show Ending.returned (U _) = _; rw [show rot x 22 = (x >>> 22) ||| (x <<< (32 - 22)) from BitVec.or_comm _ _], rfl⟩
def KA : Array Value := (Ks.map U).toArray
theorem KA_get (i : Nat) (hi : i < 64) : KA[i]? = some (U (Ks.getD i 0)) := by
 have h : i < Ks.length := by simpa [Ks] using hi
 unfold KA
 rw [List.getElem?_toArray, List.getElem?_map, List.getD_eq_getElem?_getD, List.getElem?_eq_getElem h]
 rfl
theorem KA_eq : KA = #[.int .u32 1116352408, .int .u32 1899447441, .int .u32 3049323471, .int .u32 3921009573, .int .u32 961987163, .int .u32 1508970993, .int .u32 2453635748, .int .u32 2870763221, .int .u32 3624381080, .int .u32 310598401, .int .u32 607225278, .int .u32 1426881987, .int .u32 1925078388, .int .u32 2162078206, .int .u32 2614888103, .int .u32 3248222580, .int .u32 3835390401, .int .u32 4022224774, .int .u32 264347078, .int .u32 604807628, .int .u32 770255983, .int .u32 1249150122, .int .u32 1555081692, .int .u32 1996064986, .int .u32 2554220882, .int .u32 2821834349, .int .u32 2952996808, .int .u32 3210313671, .int .u32 3336571891, .int .u32 3584528711, .int .u32 113926993, .int .u32 338241895, .int .u32 666307205, .int .u32 773529912, .int .u32 1294757372, .int .u32 1396182291, .int .u32 1695183700, .int .u32 1986661051, .int .u32 2177026350, .int .u32 2456956037, .int .u32 2730485921, .int .u32 2820302411, .int .u32 3259730800, .int .u32 3345764771, .int .u32 3516065817, .int .u32 3600352804, .int .u32 4094571909, .int .u32 275423344, .int .u32 430227734, .int .u32 506948616, .int .u32 659060556, .int .u32 883997877, .int .u32 958139571, .int .u32 1322822218, .int .u32 1537002063, .int .u32 1747873779, .int .u32 1955562222, .int .u32 2024104815, .int .u32 2227730452, .int .u32 2361852424, .int .u32 2428436474, .int .u32 2756734187, .int .u32 3204031479, .int .u32 3329325298] := by
 unfold KA
 simp only [Ks, List.map_cons, List.map_nil, U_def]
 rfl
theorem KA_size : KA.size = 64 := by simp [KA, Ks]
theorem US_one (l : List (BitVec 32)) : ∀ v ∈ ((l.map U).toArray).toList, v.oneCell' = true := by
 intro v hv
 simp only [List.mem_map] at hv
 obtain ⟨x, _, rfl⟩ := hv
 exact U_one x
theorem info64 : (Tryd.prog.info? 140).map (·.size) = some 64 := by kernel_rfl
theorem info8 : (Tryd.prog.info? 132).map (·.size) = some 8 := by kernel_rfl
theorem run_storeRow {P : Program} (w : World) (g : Nat) (t ty : TypeId) (cur cs : Array Value) (hg : w.heap[g]? = some (.cells cur t (0, 0))) (hs : cs.size = cur.size) (h1 : ∀ v ∈ cs.toList, v.oneCell' = true) (hi : (P.info? ty).map (·.size) = some cs.size) :
  (storeVar ty ⟨g, 0, none⟩ (.agg cs)).run P w = .ok () (w.setRow g cs) := by
 cases hq : P.info? ty with
 | none => simp [hq] at hi
 | some i =>
  have hz : i.size = cs.size := by simpa [hq] using hi
  have hst := run_storeCells_at (P := P) g 0 t cs.toList 0 cur w hg (by simp [hs]) h1
  have he : (cur.toList.take (0 + 0) ++ cs.toList ++ cur.toList.drop (0 + 0 + cs.toList.length)).toArray = cs := by
   rw [List.take_zero, List.nil_append, List.drop_of_length_le (by simp [hs])]
   simp
  rw [he] at hst
  have hc : (Value.agg cs).cells = cs := rfl
  simp [storeVar, hc, sizeOf, typeInfo, hq, hz, hst, Sem.run_bind]
theorem store_row_run {P : Program} {w : World} {a : Act} {o : Oper} {ty : TypeId} {p v : Operand} (ho : o.op = .store ty p v) (g : Nat) (hp : a.eval p = .pointer (some ⟨g, 0, none⟩)) (cs : Array Value) (hv : a.eval v = .agg cs) (t : TypeId) (cur : Array Value) (hg : w.heap[g]? = some (.cells cur t (0, 0))) (hs : cs.size = cur.size) (h1 : ∀ v ∈ cs.toList, v.oneCell' = true) (hi : (P.info? ty).map (·.size) = some cs.size) :
  (execOp a.eval o).run P w = .ok .skip (w.setRow g cs) := by
 have h := run_storeRow (P := P) w g t ty cur cs hg hs h1 hi
 unfold execOp
 simp only [ho, hp, hv, Instr.storeAt, Instr.sureAddr, Sem.run_bind, Sem.run_pure, Result.andThen_ok, h]
theorem setRow_below (B : Nat) (w0 w : World) (g : Nat) (cs : Array Value) (hB : Below B w0 w) (hg : B ≤ g) : Below B w0 (w.setRow g cs) := ⟨hB.os, hB.tape, hB.output, by simpa [World.setRow] using hB.size, fun k hk => (setRow_other w g k cs (by omega)).trans (hB.block k hk)⟩
end Go.Proofs.YtdidopoalmkhlaaDoor.Sha
end
section
namespace Go.Proofs.YtdidopoalmkhlaaDoor.Sha
open Go Go.RowKit Go.Proofs.YtdidopoalmkhlaaDoorW.PrintWords Go.Proofs.YtdidopoalmkhlaaDoorW.PrintLast Go.Proofs.YtdidopoalmkhlaaDoorW.PrintMore
set_option linter.unusedVariables false
set_option linter.unusedSimpArgs false
set_option maxRecDepth 100000 in
set_option maxHeartbeats 4000000 in
theorem number (i : Nat) (hi : i < 64) (w : World) : Calls Tryd.prog 92 #[.int .i64 i] w fun e w' => e = .returned (U (Ks.getD i 0)) ∧ Below w.heap.size w w' := by
 have hk := KA_get i hi
 have p0 : (0 : Int) ≤ i := by omega
 have p1 : (i : Int) < 64 := by omega
 go_enter Tryd.func92, Tryd.ntmps92
 go_wp2_with (first
  | ((with_reducible refine gate_dst (N := 4) rfl ?_); refine Kd.event_run rfl (v := .agg KA) (w1 := w) ?hr ?_; (case hr => rw [KA_eq]; kernel_rfl))
  | ((with_reducible refine gate_dst (N := 3) rfl ?_); refine box_event ?hg (N := 3) ?hd (cs := (List.replicate 64 (.int .u32 0)).toArray) (t := 140) ?hr ?_; (case hd => rfl); (case hg => rfl); (case hr => kernel_rfl); intro g hg w1 hbox hb; have HG := Aside0.mk hg; have HBX := Aside0.mk hbox; have HB := Aside0.mk hb; clear hg hbox hb)
  | ((with_reducible refine gate_store (t := 140) (p := 3) rfl ?_); refine store_event (t := 140) (p := 3) (v := ?vo) (w1 := w1.setRow g KA) ?hg ?ho ?hn ?hr ?_; (case ho => rfl); (case hg => rfl); (case hn => rfl); (case hr => exact store_row_run rfl g rfl KA rfl 140 _ HBX.out (by rw [KA_size]; rfl) (US_one _) (by rw [KA_size]; exact info64)); intro w2 hw; have hb2 : w2.heap[g]? = some (.cells KA 140 (0, 0)) := (by rw [hw]; exact setRow_heap _ _ _ _ _ _ HBX.out); have hc2 : w2.cell? ⟨g, i, none⟩ = some (U (Ks.getD i 0)) := (cell_of_row _ _ _ _ _ _ hb2).trans hk; have HB2 : Aside0 (Below w.heap.size w w2) := ⟨by rw [hw]; exact setRow_below _ _ _ _ _ HB.out (Nat.le_of_eq HG.out.symm)⟩; clear hw hb2 hk))
 go_ret
 exact ⟨rfl, HB2.out⟩
end Go.Proofs.YtdidopoalmkhlaaDoor.Sha
end
section
namespace Go.Proofs.YtdidopoalmkhlaaDoor.Sha
open Go
set_option linter.unusedVariables false
def sig0 (x : BitVec 32) : BitVec 32 := (rot x 7 ^^^ rot x 18) ^^^ (x >>> 3)
def sig1 (x : BitVec 32) : BitVec 32 := (rot x 17 ^^^ rot x 19) ^^^ (x >>> 10)
def word (b : Nat → BitVec 8) (i : Nat) : BitVec 32 := ((((b (4 * i)).zeroExtend 32 <<< 24) ||| ((b (4 * i + 1)).zeroExtend 32 <<< 16)) ||| ((b (4 * i + 2)).zeroExtend 32 <<< 8)) ||| (b (4 * i + 3)).zeroExtend 32
def Wd (b : Nat → BitVec 8) (i : Nat) : BitVec 32 :=
 if i < 16 then word b i else Wd b (i - 16) + Wd b (i - 7) + sig0 (Wd b (i - 15)) + sig1 (Wd b (i - 2))
termination_by i
theorem Wd_small (b : Nat → BitVec 8) (i : Nat) (h : i < 16) : Wd b i = word b i := by rw [Wd, if_pos h]
theorem Wd_big (b : Nat → BitVec 8) (i : Nat) (h : 16 ≤ i) : Wd b i = Wd b (i - 16) + Wd b (i - 7) + sig0 (Wd b (i - 15)) + sig1 (Wd b (i - 2)) := by rw [Wd, if_neg (by omega)]
structure St where
 a : BitVec 32
 b : BitVec 32
 c : BitVec 32
 d : BitVec 32
 e : BitVec 32
 f : BitVec 32
 g : BitVec 32
 h : BitVec 32
def St.up (t : St) (k w : BitVec 32) : BitVec 32 := t.h + ((rot t.e 6 ^^^ rot t.e 11) ^^^ rot t.e 25) + ((t.e &&& t.f) ^^^ (~~~t.e &&& t.g)) + k + w
def St.down (t : St) : BitVec 32 := ((rot t.a 2 ^^^ rot t.a 13) ^^^ rot t.a 22) + (((t.a &&& t.b) ^^^ (t.a &&& t.c)) ^^^ (t.b &&& t.c))
def St.round (t : St) (k w : BitVec 32) : St := ⟨t.up k w + t.down, t.a, t.b, t.c, t.d + t.up k w, t.e, t.f, t.g⟩
def St.rounds (b : Nat → BitVec 8) (t : St) : Nat → St
 | 0 => t
 | n + 1 => (St.rounds b t n).round (Ks.getD n 0) (Wd b n)
def St.plus (s t : St) : St := ⟨s.a + t.a, s.b + t.b, s.c + t.c, s.d + t.d, s.e + t.e, s.f + t.f, s.g + t.g, s.h + t.h⟩
def St.block (s : St) (b : Nat → BitVec 8) : St := s.plus (St.rounds b s 64)
def St.row (s : St) : Array Value := #[U s.a, U s.b, U s.c, U s.d, U s.e, U s.f, U s.g, U s.h]
theorem mul_24 (x : BitVec 32) : x * 16777216#32 = x <<< 24 := by
 rw [BitVec.shiftLeft_eq_mul_twoPow, show BitVec.twoPow 32 24 = 16777216#32 from by decide]
theorem mul_16 (x : BitVec 32) : x * 65536#32 = x <<< 16 := by
 rw [BitVec.shiftLeft_eq_mul_twoPow, show BitVec.twoPow 32 16 = 65536#32 from by decide]
theorem mul_8 (x : BitVec 32) : x * 256#32 = x <<< 8 := by
 rw [BitVec.shiftLeft_eq_mul_twoPow, show BitVec.twoPow 32 8 = 256#32 from by decide]
theorem bit8 (x : BitVec 8) (n i : Nat) (h : (x.zeroExtend 32 <<< n).getLsbD i = true) : n ≤ i ∧ i < n + 8 := by
 rw [BitVec.getLsbD_shiftLeft] at h
 simp only [BitVec.truncate_eq_setWidth, BitVec.getLsbD_setWidth, Bool.and_eq_true, Bool.not_eq_true', decide_eq_true_eq, decide_eq_false_iff_not] at h
 have := BitVec.lt_of_getLsbD h.2.2
 omega
theorem bit8' (x : BitVec 8) (i : Nat) (h : (x.zeroExtend 32).getLsbD i = true) : i < 8 := by
 simp only [BitVec.truncate_eq_setWidth, BitVec.getLsbD_setWidth, Bool.and_eq_true, decide_eq_true_eq] at h
 exact BitVec.lt_of_getLsbD h.2
theorem word_mul (b : Nat → BitVec 8) (i : Nat) : (b (4 * i)).zeroExtend 32 * 16777216#32 + (b (4 * i + 1)).zeroExtend 32 * 65536#32 + (b (4 * i + 2)).zeroExtend 32 * 256#32 + (b (4 * i + 3)).zeroExtend 32 = word b i := by
 rw [mul_24, mul_16, mul_8, word]
 rw [BitVec.add_eq_or_of_and_eq_zero ((b (4 * i)).zeroExtend 32 <<< 24) ((b (4 * i + 1)).zeroExtend 32 <<< 16), BitVec.add_eq_or_of_and_eq_zero _ ((b (4 * i + 2)).zeroExtend 32 <<< 8), BitVec.add_eq_or_of_and_eq_zero]
 all_goals
  apply BitVec.eq_of_getLsbD_eq
  intro j hj
  rw [BitVec.getLsbD_zero, ← Bool.not_eq_true]
  intro h
  simp only [BitVec.getLsbD_and, BitVec.getLsbD_or, Bool.and_eq_true, Bool.or_eq_true] at h
  first
   | (obtain ⟨(h1 | h1) | h1, h2⟩ := h <;> (have x1 := bit8 _ _ _ h1; have x2 := bit8' _ _ h2; omega))
   | (obtain ⟨h1 | h1, h2⟩ := h <;> (have x1 := bit8 _ _ _ h1; have x2 := bit8 _ _ _ h2; omega))
   | (obtain ⟨h1, h2⟩ := h; have x1 := bit8 _ _ _ h1; have x2 := bit8 _ _ _ h2; omega)
theorem not_sub (x : BitVec 32) : 4294967295#32 - x = ~~~x := by
 apply BitVec.eq_of_toNat_eq
 rw [BitVec.toNat_sub, BitVec.toNat_not]
 have := x.isLt
 simp
 omega
end Go.Proofs.YtdidopoalmkhlaaDoor.Sha
end
section
namespace Go.Proofs.YtdidopoalmkhlaaDoor.Sha
open Go Go.RowKit Go.Proofs.YtdidopoalmkhlaaDoorW.PrintWords Go.Proofs.YtdidopoalmkhlaaDoorW.PrintLast Go.Proofs.YtdidopoalmkhlaaDoorW.PrintMore
set_option linter.unusedVariables false
set_option linter.unusedSimpArgs false
attribute [local go_sem] u_and u_or u_xor u_add u_sub u_mul u_shl_24 u_shl_16 u_shl_8 u_shr_3 u_shr_10 u_shr_24 u_shr_16 u_shr_8 u_shl' u_shr' u_not
theorem u_mul_24 (t : TypeId) (x : BitVec 32) : binOp .mul t (U x) (.int .u32 16777216) = pure (U (x * 16777216#32)) := by rw [show (.int .u32 16777216 : Value) = U 16777216#32 by rw [U_def]; rfl, u_mul]
theorem u_mul_16 (t : TypeId) (x : BitVec 32) : binOp .mul t (U x) (.int .u32 65536) = pure (U (x * 65536#32)) := by rw [show (.int .u32 65536 : Value) = U 65536#32 by rw [U_def]; rfl, u_mul]
theorem u_mul_8 (t : TypeId) (x : BitVec 32) : binOp .mul t (U x) (.int .u32 256) = pure (U (x * 256#32)) := by rw [show (.int .u32 256 : Value) = U 256#32 by rw [U_def]; rfl, u_mul]
theorem u_sub_not (t : TypeId) (x : BitVec 32) : binOp .sub t (.int .u32 4294967295) (U x) = pure (U (~~~x)) := by rw [show (.int .u32 4294967295 : Value) = U 4294967295#32 by rw [U_def]; rfl, u_sub, not_sub]
attribute [local go_sem] u_mul_24 u_mul_16 u_mul_8 u_sub_not
theorem cv (x : BitVec 8) (w : World) : (convert 5 131 (Y x)).run Tryd.prog w = .ok (U (x.zeroExtend 32)) w := y_convert w _ _ x (by kernel_rfl) (by kernel_rfl)
theorem turn_q7 (x : BitVec 32) (w : World) (n : Nat) : Calls Tryd.prog 91 #[U x, .int .u64 7] (w.drewN n) fun e w'' => e = .returned (U (rot x 7)) ∧ ∃ m, w'' = w.drewN m := Calls.quiet_of_same (turn_7 x _)
theorem turn_q18 (x : BitVec 32) (w : World) (n : Nat) : Calls Tryd.prog 91 #[U x, .int .u64 18] (w.drewN n) fun e w'' => e = .returned (U (rot x 18)) ∧ ∃ m, w'' = w.drewN m := Calls.quiet_of_same (turn_18 x _)
theorem turn_q17 (x : BitVec 32) (w : World) (n : Nat) : Calls Tryd.prog 91 #[U x, .int .u64 17] (w.drewN n) fun e w'' => e = .returned (U (rot x 17)) ∧ ∃ m, w'' = w.drewN m := Calls.quiet_of_same (turn_17 x _)
theorem turn_q19 (x : BitVec 32) (w : World) (n : Nat) : Calls Tryd.prog 91 #[U x, .int .u64 19] (w.drewN n) fun e w'' => e = .returned (U (rot x 19)) ∧ ∃ m, w'' = w.drewN m := Calls.quiet_of_same (turn_19 x _)
theorem info32 : (Tryd.prog.info? 131).map (fun i => (i.zero, i.size, i.bytes)) = some (some (.int .u32 0), 1, 4) := by kernel_rfl
theorem store_at {P : Program} {w : World} {b : Nat} {t : TypeId} {n : Nat} {f : Nat → Value} (h : w.rowIs b t n f) (o : Nat) (ho : o < n) (v : Value) (h1 : v.oneCell' = true) : Sem.run P (store ⟨b, o, none⟩ v) w = .ok () (w.setCell ⟨b, o, none⟩ v) := by
 have hst := run_store P w ⟨b, o, none⟩ v .plain h1
 rw [h.cell ho] at hst
 simp only [h.frozen o] at hst
 exact hst
theorem U_match {α : Sort _} (x : BitVec 32) (f : Array Value → α) (g : Value → α) : Value.cells.match_1 (fun _ => α) (U x) f g = g (U x) := by rw [U_def]
attribute [local go_sem high] U_cells
attribute [local go_sem] U_match
theorem rowN {w : World} {b : Nat} {t : TypeId} {n : Nat} {f : Nat → Value} (h : w.rowIs b t n f) (k : Nat) : (w.drewN k).rowIs b t n f := by
 induction k with
 | zero => exact h
 | succ k ih => exact h.of_block (by simp)
theorem row_one (s : St) : ∀ v ∈ s.row.toList, v.oneCell' = true := US_one [s.a, s.b, s.c, s.d, s.e, s.f, s.g, s.h]
set_option maxRecDepth 100000 in
theorem und8 : ∃ n t, Tryd.prog.underlying 132 = some (.array n t) := by
 have h : (match Tryd.prog.underlying 132 with | some (.array _ _) => true | _ => false) = true := by kernel_rfl
 revert h
 split <;> intro h
 ·
  rename_i h0; exact ⟨_, _, h0⟩
 ·
  cases h
def sched (b : Nat → BitVec 8) (k j : Nat) : Value := if j < k then U (Wd b j) else .int .u32 0
theorem add_rc (x y z : BitVec 32) : x + y + z = x + z + y := by rw [BitVec.add_assoc, BitVec.add_comm y z, ← BitVec.add_assoc]
theorem sched_lt (b : Nat → BitVec 8) (k j : Nat) (h : j < k) : sched b k j = U (Wd b j) := if_pos h
theorem sched_step (b : Nat → BitVec 8) (i : Nat) (x : BitVec 32) (hx : x = Wd b i) (j : Nat) : (if j = i then U x else sched b i j) = sched b (i + 1) j := by
 unfold sched
 subst hx
 by_cases h1 : j = i
 ·
  subst h1; rw [if_pos rfl, if_pos (Nat.lt_succ_self _)]
 ·
  rw [if_neg h1]
  by_cases h2 : j < i
  ·
   rw [if_pos h2, if_pos (by omega)]
  ·
   rw [if_neg h2, if_neg (by omega)]
theorem two_size (w : World) (A B : Obj) : ((w.alloc A).alloc B).heap.size = w.heap.size + 1 + 1 := by simp
theorem two_facts {w w' : World} {A B : Array Value} {t : TypeId} (h : ((w.alloc (.cells A t)).alloc (.cells B t)).Since (w.heap.size + 1 + 1) w') : w'.heap[w.heap.size]? = some (.cells A t (0, 0)) ∧ w'.heap[w.heap.size + 1]? = some (.cells B t (0, 0)) ∧ Below w.heap.size w w' := by
 refine ⟨(h.block _ (by omega)).trans (heap_alloc2_old w _ _), (h.block _ (by omega)).trans (heap_alloc2_new w _ _), h.os, h.tape, h.output, ?_, fun k hk => (h.block k (by omega)).trans ?_⟩
 ·
  have := h.size
  rw [two_size] at this
  omega
 ·
  rw [Below.heap_alloc _ _ _ (by simp; omega), Below.heap_alloc _ _ _ hk]
theorem _root_.Go.World.rowIs.of_block' {w : World} {b b' : Nat} {t : TypeId} {n : Nat} {f : Nat → Value} (h : w.rowIs b t n f) (e : b = b') : w.rowIs b' t n f := e ▸ h
theorem sinceN {B : Nat} {w w' : World} (h : w.Since B w') (n : Nat) : w.Since B (w'.drewN n) := by
 induction n with
 | zero => exact h
 | succ n ih => exact h.trans ⟨rfl, rfl, rfl, Nat.le_refl _, fun k _ => rfl⟩
theorem belowN {B : Nat} {w w' : World} (h : Below B w w') (n : Nat) : Below B w (w'.drewN n) := by
 induction n with
 | zero => exact h
 | succ n ih => exact h.trans ⟨rfl, rfl, rfl, Nat.le_refl _, fun k _ => rfl⟩
set_option maxRecDepth 100000 in
set_option maxHeartbeats 60000000 in
theorem step (s : St) (b : Nat → BitVec 8) (g o c : Nat) (w : World) (hb : ∀ j, j < 64 → w.cell? ⟨g, o + j, none⟩ = some (Y (b j))) : Calls Tryd.prog 87 #[.agg s.row, .slice (some ⟨g, o, none⟩) 64 c] w fun e w' => e = .returned (.agg (s.block b).row) ∧ Below w.heap.size w w' := by
 have hmk : ∀ w, (Instr.makeSlice 142 (.int .i64 64) (.int .i64 64)).run Tryd.prog w = .ok (.slice (some ⟨w.heap.size, 0, none⟩) 64 64) (w.alloc (.cells (madeCells #[.int .u32 0] 64) 131)) := fun w => run_make_row' (P := Tryd.prog) 142 131 (.int .u32 0) 4 rfl info32 rfl .i64 .i64 64 (by decide) (by decide) w
 have HB := Lib.hid hb
 clear hb
 unfold St.row
 go_enter Tryd.func87, Tryd.ntmps87
 go_wp2
 clear hmk
 go_loopg [6] 64 (fun kq v6 w' => ∃ i : Nat, v6 = .int .i64 (i : Int) ∧ i + kq = 64 ∧ Hid (w'.rowIs (w.heap.size + 1 + 1) 131 64 (sched b i)) ∧ Hid (((w.alloc (.cells s.row 132)).alloc (.cells (#[.int .u32 0, .int .u32 0, .int .u32 0, .int .u32 0, .int .u32 0, .int .u32 0, .int .u32 0, .int .u32 0]) 132)).Since (w.heap.size + 1 + 1) w'))
 case atStart => exact ⟨0, rfl, rfl, Lib.hid (((World.rowIs_made _ (.int .u32 0) 64 131).congr (g := sched b 0) (fun j _ => rfl)).of_block' (two_size w _ _)), Lib.hid ((World.Since.refl _ _).alloc (Nat.le_of_eq (two_size w _ _).symm) _)⟩
 case round =>
  obtain ⟨i, rfl, hi, HR, HS⟩ := hrel
  by_cases h64 : i < 64
  ·
   cases gk with
   | zero => exact absurd hi (by omega)
   | succ k1 =>
   have el : decide ((i : Int) < 64) = true := decide_eq_true (by omega)
   have wi : IntKind.i64.wrap ((i : Int) + 1) = (i : Int) + 1 := IntWalk.i64_in _ (by omega)
   have i0 : (0 : Int) ≤ i := by omega
   have i1 : (i : Int) < 64 := by omega
   by_cases h16 : i < 16
   ·
    have e16 : decide ((i : Int) < 16) = true := decide_eq_true (by omega)
    obtain ⟨m, hm⟩ : ∃ m : Nat, m = 4 * i := ⟨_, rfl⟩
    have e0 : IntKind.i64.wrap (4 * (i : Int)) = (m : Int) := by rw [IntWalk.i64_in _ (by omega)]; omega
    have e1 : IntKind.i64.wrap ((m : Int) + 1) = (m : Int) + 1 := IntWalk.i64_in _ (by omega)
    have e2 : IntKind.i64.wrap ((m : Int) + 2) = (m : Int) + 2 := IntWalk.i64_in _ (by omega)
    have e3 : IntKind.i64.wrap ((m : Int) + 3) = (m : Int) + 3 := IntWalk.i64_in _ (by omega)
    have t1 : ((m : Int) + 1).toNat = m + 1 := by omega
    have t2 : ((m : Int) + 2).toNat = m + 2 := by omega
    have t3 : ((m : Int) + 3).toNat = m + 3 := by omega
    have l0 : (0 : Int) ≤ m := by omega
    have l1 : (0 : Int) ≤ (m : Int) + 1 := by omega
    have l2 : (0 : Int) ≤ (m : Int) + 2 := by omega
    have l3 : (0 : Int) ≤ (m : Int) + 3 := by omega
    have r0 : (m : Int) < 64 := by omega
    have r1 : (m : Int) + 1 < 64 := by omega
    have r2 : (m : Int) + 2 < 64 := by omega
    have r3 : (m : Int) + 3 < 64 := by omega
    have HBC : ∀ j, j < 64 → wr.cell? ⟨g, o + j, none⟩ = some (Y (b j)) := fun j hj => ((two_facts HS.out).2.2.cell (World.block_lt_of_cell? w _ (HB.out j hj))).trans (HB.out j hj)
    have x0 : wr.cell? ⟨g, o + m, none⟩ = some (Y (b m)) := HBC m (by omega)
    have x1 : wr.cell? ⟨g, o + (m + 1), none⟩ = some (Y (b (m + 1))) := HBC (m + 1) (by omega)
    have x2 : wr.cell? ⟨g, o + (m + 2), none⟩ = some (Y (b (m + 2))) := HBC (m + 2) (by omega)
    have x3 : wr.cell? ⟨g, o + (m + 3), none⟩ = some (Y (b (m + 3))) := HBC (m + 3) (by omega)
    clear HBC
    have xs : ∀ x, Sem.run Tryd.prog (store ⟨w.heap.size + 1 + 1, i, none⟩ (U x)) wr.drew = .ok () (wr.drew.setCell ⟨w.heap.size + 1 + 1, i, none⟩ (U x)) := fun x => store_at HR.out.drew i h64 _ (U_one x)
    have HM := Lib.hid hm
    clear hm
    have hcv := cv
    go_wp2
    go_still_tail 35, (by kernel_rfl)
    go_wp2
    go_roundg k1
    case measure => omega
    case rel =>
     refine ⟨i + 1, congrArg (Value.int .i64) (by omega), by omega, Lib.hid (World.rowIs.drew ((HR.out.set i _).congr fun j _ => sched_step b i _ ?_ j)), Lib.hid (World.Since.drew (HS.out.setCell (a := ⟨w.heap.size + 1 + 1, i, none⟩) (Nat.le_refl _) _))⟩
     rw [Wd_small b i h16, ← word_mul b i, ← HM.out]
   ·
    have e16 : decide ((i : Int) < 16) = false := decide_eq_false (by omega)
    obtain ⟨p15, h15⟩ : ∃ m : Nat, i = m + 15 := ⟨i - 15, by omega⟩
    obtain ⟨p2, h2⟩ : ∃ m : Nat, i = m + 2 := ⟨i - 2, by omega⟩
    obtain ⟨p16, hh16⟩ : ∃ m : Nat, i = m + 16 := ⟨i - 16, by omega⟩
    obtain ⟨p7, h7⟩ : ∃ m : Nat, i = m + 7 := ⟨i - 7, by omega⟩
    have e15 : IntKind.i64.wrap ((i : Int) - 15) = (p15 : Int) := by rw [IntWalk.i64_in _ (by omega)]; omega
    have e2 : IntKind.i64.wrap ((i : Int) - 2) = (p2 : Int) := by rw [IntWalk.i64_in _ (by omega)]; omega
    have ee16 : IntKind.i64.wrap ((i : Int) - 16) = (p16 : Int) := by rw [IntWalk.i64_in _ (by omega)]; omega
    have e7 : IntKind.i64.wrap ((i : Int) - 7) = (p7 : Int) := by rw [IntWalk.i64_in _ (by omega)]; omega
    have l15 : (0 : Int) ≤ p15 := by omega
    have l2 : (0 : Int) ≤ p2 := by omega
    have l16 : (0 : Int) ≤ p16 := by omega
    have l7 : (0 : Int) ≤ p7 := by omega
    have r15 : (p15 : Int) < 64 := by omega
    have r2 : (p2 : Int) < 64 := by omega
    have r16 : (p16 : Int) < 64 := by omega
    have r7 : (p7 : Int) < 64 := by omega
    have x15 : wr.cell? ⟨w.heap.size + 1 + 1, p15, none⟩ = some (U (Wd b p15)) := (HR.out.cell (by omega)).trans (congrArg some (sched_lt b i p15 (by omega)))
    have HX := Lib.hid (And.intro h15 (And.intro h2 (And.intro hh16 h7)))
    clear h15 h2 hh16 h7
    go_wp2
    go_quiet (first
     | (with_reducible exact turn_q7 _ _ _)
     | (with_reducible exact turn_q18 _ _ _))
    have HR1 := Lib.hid (rowN HR.out nq)
    have HS1 := Lib.hid (sinceN HS.out nq)
    clear x15
    generalize wr.drewN nq = w1 at HR1 HS1 ⊢
    have x2 : w1.cell? ⟨w.heap.size + 1 + 1, p2, none⟩ = some (U (Wd b p2)) := (HR1.out.cell (by have := HX.out; omega)).trans (congrArg some (sched_lt b i p2 (by have := HX.out; omega)))
    go_wp2
    go_quiet (first
     | (with_reducible exact turn_q17 _ _ _)
     | (with_reducible exact turn_q19 _ _ _))
    have HR2 := Lib.hid (rowN HR1.out nq)
    have HS2 := Lib.hid (sinceN HS1.out nq)
    clear x2
    generalize w1.drewN nq = w2 at HR2 HS2 ⊢
    have x16 : w2.cell? ⟨w.heap.size + 1 + 1, p16, none⟩ = some (U (Wd b p16)) := (HR2.out.cell (by have := HX.out; omega)).trans (congrArg some (sched_lt b i p16 (by have := HX.out; omega)))
    have x7 : w2.cell? ⟨w.heap.size + 1 + 1, p7, none⟩ = some (U (Wd b p7)) := (HR2.out.cell (by have := HX.out; omega)).trans (congrArg some (sched_lt b i p7 (by have := HX.out; omega)))
    have xs : ∀ x, Sem.run Tryd.prog (store ⟨w.heap.size + 1 + 1, i, none⟩ (U x)) w2.drew = .ok () (w2.drew.setCell ⟨w.heap.size + 1 + 1, i, none⟩ (U x)) := fun x => store_at HR2.out.drew i h64 _ (U_one x)
    go_wp2
    go_still_tail 17, (by kernel_rfl)
    go_wp2
    go_roundg k1
    case measure => omega
    case rel =>
     refine ⟨i + 1, congrArg (Value.int .i64) (by omega), by omega, Lib.hid (World.rowIs.drew ((HR2.out.set i _).congr fun j _ => sched_step b i _ ?_ j)), Lib.hid (World.Since.drew (HS2.out.setCell (a := ⟨w.heap.size + 1 + 1, i, none⟩) (Nat.le_refl _) _))⟩
     obtain ⟨q1, q2, q3, q4⟩ := HX.out
     rw [Wd_big b i (by omega), show i - 16 = p16 by omega, show i - 7 = p7 by omega, show i - 15 = p15 by omega, show i - 2 = p2 by omega, add_rc (Wd b p16)]
     rfl
  ·
   have el : decide ((i : Int) < 64) = false := decide_eq_false (by omega)
   obtain rfl : i = 64 := by omega
   have x0 : wr.cell? ⟨w.heap.size, 0, none⟩ = some (U s.a) := cell_of_row _ _ _ _ _ _ (two_facts HS.out).1
   have x1 : wr.cell? ⟨w.heap.size, 1, none⟩ = some (U s.b) := cell_of_row _ _ _ _ _ _ (two_facts HS.out).1
   have x2 : wr.cell? ⟨w.heap.size, 2, none⟩ = some (U s.c) := cell_of_row _ _ _ _ _ _ (two_facts HS.out).1
   have x3 : wr.cell? ⟨w.heap.size, 3, none⟩ = some (U s.d) := cell_of_row _ _ _ _ _ _ (two_facts HS.out).1
   have x4 : wr.cell? ⟨w.heap.size, 4, none⟩ = some (U s.e) := cell_of_row _ _ _ _ _ _ (two_facts HS.out).1
   have x5 : wr.cell? ⟨w.heap.size, 5, none⟩ = some (U s.f) := cell_of_row _ _ _ _ _ _ (two_facts HS.out).1
   have x6 : wr.cell? ⟨w.heap.size, 6, none⟩ = some (U s.g) := cell_of_row _ _ _ _ _ _ (two_facts HS.out).1
   have x7 : wr.cell? ⟨w.heap.size, 7, none⟩ = some (U s.h) := cell_of_row _ _ _ _ _ _ (two_facts HS.out).1
   go_wp2
   go_quiet (fail)
   go_wp2
   have HR1 := Lib.hid (rowN HR.out nq)
   have HS1 := Lib.hid (sinceN HS.out nq)
   clear x0 x1 x2 x3 x4 x5 x6 x7
   generalize wr.drewN nq = w1 at HR1 HS1 ⊢
   have x4 : w1.cell? ⟨w.heap.size, 4, none⟩ = some (U s.e) := cell_of_row _ _ _ _ _ _ (two_facts HS1.out).1
   have x5 : w1.cell? ⟨w.heap.size, 5, none⟩ = some (U s.f) := cell_of_row _ _ _ _ _ _ (two_facts HS1.out).1
   have x6 : w1.cell? ⟨w.heap.size, 6, none⟩ = some (U s.g) := cell_of_row _ _ _ _ _ _ (two_facts HS1.out).1
   have x7 : w1.cell? ⟨w.heap.size, 7, none⟩ = some (U s.h) := cell_of_row _ _ _ _ _ _ (two_facts HS1.out).1
   go_quiet (fail)
   go_wp2
   have HR2 := Lib.hid (rowN HR1.out nq)
   have HS2 := Lib.hid (sinceN HS1.out nq)
   clear x4 x5 x6 x7 HS1
   generalize w1.drewN nq = w2 at HR2 HS2 ⊢
   go_loopg [9, 10, 11, 12, 13, 14, 15, 16, 17] 64 (fun kq v9 v10 v11 v12 v13 v14 v15 v16 v17 w' => ∃ (i : Nat) (t : St), v17 = .int .i64 (i : Int) ∧ i + kq = 64 ∧ v9 = U t.a ∧ v10 = U t.b ∧ v11 = U t.c ∧ v12 = U t.d ∧ v13 = U t.e ∧ v14 = U t.f ∧ v15 = U t.g ∧ v16 = U t.h ∧ Hid (St.rounds b s i = t) ∧ Hid (Below w2.heap.size w2 w'))
   case atStart => exact ⟨0, s, rfl, rfl, rfl, rfl, rfl, rfl, rfl, rfl, rfl, rfl, Lib.hid rfl, Lib.hid (Below.refl _ _)⟩
   case round =>
    obtain ⟨i, t, rfl, hi2, rfl, rfl, rfl, rfl, rfl, rfl, rfl, rfl, HT, HB2⟩ := hrel
    by_cases h64 : i < 64
    ·
     cases gk with
     | zero => exact absurd hi2 (by omega)
     | succ k1 =>
     have el : decide ((i : Int) < 64) = true := decide_eq_true (by omega)
     have wi : IntKind.i64.wrap ((i : Int) + 1) = (i : Int) + 1 := IntWalk.i64_in _ (by omega)
     have i0 : (0 : Int) ≤ i := by omega
     have i1 : (i : Int) < 64 := by omega
     have x3 : wr.cell? ⟨w.heap.size + 1 + 1, i, none⟩ = some (U (Wd b i)) := (HB2.out.cell HR2.out.lt).trans ((HR2.out.cell h64).trans (congrArg some (sched_lt b 64 i h64)))
     have HB3 := HB2.out
     have hlt3 : w.heap.size + 1 + 1 < wr.drew.heap.size := World.block_lt_of_cell? wr _ x3
     go_wp2
     go_region_held3 (fun w' => w'.cell? ⟨w.heap.size + 1 + 1, i, none⟩ = some (U (Wd b i)) ∧ Below w2.heap.size w2 w') (first | exact ⟨x3, HB3.drew⟩ | exact ⟨(hbn.cell hlt3).trans x3, HB3.drew.trans (hbn.mono HB3.size)⟩) (first
      | (go_at_call 91; with_reducible refine (turn_6 _ _).mono ?_; rintro e w' ⟨rfl, rfl⟩)
      | (go_at_call 91; with_reducible refine (turn_11 _ _).mono ?_; rintro e w' ⟨rfl, rfl⟩)
      | (go_at_call 91; with_reducible refine (turn_25 _ _).mono ?_; rintro e w' ⟨rfl, rfl⟩)
      | (go_at_call 92; refine (number i h64 _).mono ?_; rintro e w' ⟨rfl, hbn⟩))
     have HB4 := Lib.hid (HB3.drew.trans (hbn.mono HB3.size))
     clear hbn HB3 hlt3 x3
     go_wp2_with (first
      | (go_at_call 91; with_reducible refine (turn_2 _ _).mono ?_; rintro e w' ⟨rfl, rfl⟩)
      | (go_at_call 91; with_reducible refine (turn_13 _ _).mono ?_; rintro e w' ⟨rfl, rfl⟩)
      | (go_at_call 91; with_reducible refine (turn_22 _ _).mono ?_; rintro e w' ⟨rfl, rfl⟩))
     go_roundg k1
     case measure => omega
     case rel => exact ⟨i + 1, t.round (Ks[i]?.getD 0#32) (Wd b i), congrArg (Value.int .i64) (by omega), by omega, rfl, rfl, rfl, rfl, rfl, rfl, rfl, rfl, Lib.hid (by rw [St.rounds, HT.out]; rfl), HB4⟩
    ·
     have el : decide ((i : Int) < 64) = false := decide_eq_false (by omega)
     obtain rfl : i = 64 := by omega
     have hlt2 := HR2.out.lt
     have hH := (HB2.out.block w.heap.size (by omega)).trans (two_facts HS2.out).1
     have hR := (HB2.out.block (w.heap.size + 1) (by omega)).trans (two_facts HS2.out).2.1
     have HBB := Lib.hid ((two_facts HS2.out).2.2.trans (HB2.out.mono (by omega)))
     have HRO : Hid (∃ cur : Array Value, wr.heap[w.heap.size + 1]? = some (.cells cur 132 (0, 0)) ∧ cur.size = 8) := ⟨_, hR, rfl⟩
     clear hR hlt2
     have x0 : wr.cell? ⟨w.heap.size, 0, none⟩ = some (U s.a) := cell_of_row _ _ _ _ _ _ hH
     have x1 : wr.cell? ⟨w.heap.size, 1, none⟩ = some (U s.b) := cell_of_row _ _ _ _ _ _ hH
     have x2 : wr.cell? ⟨w.heap.size, 2, none⟩ = some (U s.c) := cell_of_row _ _ _ _ _ _ hH
     have x3 : wr.cell? ⟨w.heap.size, 3, none⟩ = some (U s.d) := cell_of_row _ _ _ _ _ _ hH
     have x4 : wr.cell? ⟨w.heap.size, 4, none⟩ = some (U s.e) := cell_of_row _ _ _ _ _ _ hH
     have x5 : wr.cell? ⟨w.heap.size, 5, none⟩ = some (U s.f) := cell_of_row _ _ _ _ _ _ hH
     have x6 : wr.cell? ⟨w.heap.size, 6, none⟩ = some (U s.g) := cell_of_row _ _ _ _ _ _ hH
     have x7 : wr.cell? ⟨w.heap.size, 7, none⟩ = some (U s.h) := cell_of_row _ _ _ _ _ _ hH
     clear hH
     obtain ⟨cur, hcur, hcs⟩ := HRO.out
     have HCU := Lib.hid hcur
     have HCS := Lib.hid hcs
     clear hcur hcs HRO
     go_wp2_with ((with_reducible refine gate_store (t := 132) (p := 4) rfl ?_); refine store_event (t := 132) (p := 4) (v := ?vo) (w1 := wr.setRow (w.heap.size + 1) (s.plus t).row) ?hg ?ho ?hn ?hr ?_; (case ho => rfl); (case hg => rfl); (case hn => rfl); (case hr => exact store_row_run rfl (w.heap.size + 1) rfl (s.plus t).row rfl 132 cur HCU.out (by rw [HCS.out]; rfl) (row_one _) info8); intro wz hw; have hbz : wz.heap[w.heap.size + 1]? = some (.cells (s.plus t).row 132 (0, 0)) := (by rw [hw]; exact setRow_heap _ _ _ _ _ _ HCU.out); have y0 : wz.cell? ⟨w.heap.size + 1, 0, none⟩ = some (U (s.a + t.a)) := (cell_of_row _ _ _ _ _ _ hbz); have y1 : wz.cell? ⟨w.heap.size + 1, 1, none⟩ = some (U (s.b + t.b)) := (cell_of_row _ _ _ _ _ _ hbz); have y2 : wz.cell? ⟨w.heap.size + 1, 2, none⟩ = some (U (s.c + t.c)) := (cell_of_row _ _ _ _ _ _ hbz); have y3 : wz.cell? ⟨w.heap.size + 1, 3, none⟩ = some (U (s.d + t.d)) := (cell_of_row _ _ _ _ _ _ hbz); have y4 : wz.cell? ⟨w.heap.size + 1, 4, none⟩ = some (U (s.e + t.e)) := (cell_of_row _ _ _ _ _ _ hbz); have y5 : wz.cell? ⟨w.heap.size + 1, 5, none⟩ = some (U (s.f + t.f)) := (cell_of_row _ _ _ _ _ _ hbz); have y6 : wz.cell? ⟨w.heap.size + 1, 6, none⟩ = some (U (s.g + t.g)) := (cell_of_row _ _ _ _ _ _ hbz); have y7 : wz.cell? ⟨w.heap.size + 1, 7, none⟩ = some (U (s.h + t.h)) := (cell_of_row _ _ _ _ _ _ hbz); have HW := Lib.hid hw; clear hw hbz)
     (try simp only [Exit.inBlock, Exit.then])
     have hz : wz.heap[w.heap.size + 1]? = some (.cells (s.plus t).row 132 (0, 0)) := by rw [HW.out]; exact setRow_heap _ _ _ _ _ _ HCU.out
     obtain ⟨na, ta, hu8⟩ := und8
     refine bodyPost_ret (results_cell_row rfl _ _ (w.heap.size + 1) 132 (s.plus t).row (0, 0) (.array na ta) rfl hz hu8 rfl info8) rfl ?_
     refine ⟨?_, ?_⟩
     ·
      rw [← HT.out]; rfl
     ·
      rw [HW.out]
      refine setRow_below _ _ _ _ _ ?_ (by omega)
      exact HBB.out
end Go.Proofs.YtdidopoalmkhlaaDoor.Sha
end
section
namespace Go.Proofs.YtdidopoalmkhlaaDoor.Sha
open Go Go.RowKit Go.Proofs.YtdidopoalmkhlaaDoorW.PrintWords Go.Proofs.YtdidopoalmkhlaaDoorW.PrintLast Go.Proofs.YtdidopoalmkhlaaDoorW.PrintMore
set_option linter.unusedVariables false
set_option linter.unusedSimpArgs false
attribute [local go_sem] u_and u_or u_xor u_add u_sub u_mul u_shl_24 u_shl_16 u_shl_8 u_shr_3 u_shr_10 u_shr_24 u_shr_16 u_shr_8 u_shl' u_shr' u_not
attribute [local go_sem high] U_cells
attribute [local go_sem] U_match
theorem rotate_q6 (x : BitVec 32) (w : World) (n : Nat) : Calls Tryd.prog 90 #[U x, .int .i64 (-6)] (w.drewN n) fun e w'' => e = .returned (U (rot x 6)) ∧ ∃ m, w'' = w.drewN m := Calls.quiet_of_same (rotate_6 x _)
theorem rotate_q11 (x : BitVec 32) (w : World) (n : Nat) : Calls Tryd.prog 90 #[U x, .int .i64 (-11)] (w.drewN n) fun e w'' => e = .returned (U (rot x 11)) ∧ ∃ m, w'' = w.drewN m := Calls.quiet_of_same (rotate_11 x _)
theorem rotate_q25 (x : BitVec 32) (w : World) (n : Nat) : Calls Tryd.prog 90 #[U x, .int .i64 (-25)] (w.drewN n) fun e w'' => e = .returned (U (rot x 25)) ∧ ∃ m, w'' = w.drewN m := Calls.quiet_of_same (rotate_25 x _)
theorem rotate_q2 (x : BitVec 32) (w : World) (n : Nat) : Calls Tryd.prog 90 #[U x, .int .i64 (-2)] (w.drewN n) fun e w'' => e = .returned (U (rot x 2)) ∧ ∃ m, w'' = w.drewN m := Calls.quiet_of_same (rotate_2 x _)
theorem rotate_q13 (x : BitVec 32) (w : World) (n : Nat) : Calls Tryd.prog 90 #[U x, .int .i64 (-13)] (w.drewN n) fun e w'' => e = .returned (U (rot x 13)) ∧ ∃ m, w'' = w.drewN m := Calls.quiet_of_same (rotate_13 x _)
theorem rotate_q22 (x : BitVec 32) (w : World) (n : Nat) : Calls Tryd.prog 90 #[U x, .int .i64 (-22)] (w.drewN n) fun e w'' => e = .returned (U (rot x 22)) ∧ ∃ m, w'' = w.drewN m := Calls.quiet_of_same (rotate_22 x _)
theorem heapN (w : World) (n : Nat) : (w.drewN n).heap = w.heap := by
 induction n with
 | zero => rfl
 | succ n ih => exact ih
def St.get (s : St) : Nat → BitVec 32
 | 0 => s.a | 1 => s.b | 2 => s.c | 3 => s.d | 4 => s.e | 5 => s.f | 6 => s.g | _ => s.h
theorem get_plus (s t : St) (j : Nat) : (s.plus t).get j = s.get j + t.get j := by
 unfold St.get
 split <;> rfl
theorem row_get (s : St) (j : Nat) (h : j < 8) : s.row[j]? = some (U (s.get j)) := by
 match j, h with
 | 0, _ => rfl
 | 1, _ => rfl
 | 2, _ => rfl
 | 3, _ => rfl
 | 4, _ => rfl
 | 5, _ => rfl
 | 6, _ => rfl
 | 7, _ => rfl
theorem row_is {w : World} {g : Nat} {t : TypeId} {s : St} (h : w.heap[g]? = some (.cells s.row t (0, 0))) : w.rowIs g t 8 (fun j => U (s.get j)) := ⟨s.row, h, rfl, fun i hi => row_get s i hi⟩
theorem is_row {w : World} {g : Nat} {t : TypeId} {s : St} (h : w.rowIs g t 8 (fun j => U (s.get j))) : w.heap[g]? = some (.cells s.row t (0, 0)) := by
 obtain ⟨c, h1, h2, h3⟩ := h
 have e : c = s.row := by
  apply Array.ext_getElem?
  intro i
  by_cases hi : i < 8
  ·
   rw [h3 i hi, row_get s i hi]
  ·
   rw [Array.getElem?_eq_none (by omega), Array.getElem?_eq_none (by show 8 ≤ i; omega)]
 rw [h1, e]
def mix (s t : St) (k j : Nat) : Value := if j < k then U ((s.plus t).get j) else U (s.get j)
theorem mix_step (s t : St) (i : Nat) (j : Nat) : (if j = i then U (s.get i + t.get i) else mix s t i j) = mix s t (i + 1) j := by
 unfold mix
 by_cases h1 : j = i
 ·
  subst h1; rw [if_pos rfl, if_pos (Nat.lt_succ_self _), get_plus]
 ·
  rw [if_neg h1]
  by_cases h2 : j < i
  ·
   rw [if_pos h2, if_pos (by omega)]
  ·
   rw [if_neg h2, if_neg (by omega)]
def Z64 : Array Value := Array.replicate 64 (.int .u32 0)
theorem Z64_get (i : Nat) (h : i < Z64.size) : Z64[i]? = some (.int .u32 0) := by
 unfold Z64 at h ⊢
 rw [Array.getElem?_replicate, if_pos (by simpa using h)]
set_option maxRecDepth 100000 in
set_option maxHeartbeats 60000000 in
theorem block (s : St) (b : Nat → BitVec 8) (g o c : Nat) (w : World) (hb : ∀ j, j < 64 → w.cell? ⟨g, o + j, none⟩ = some (Y (b j))) (hg : ∃ cs t fr, w.heap[0]? = some (.cells cs t fr) ∧ ∀ i, i < 64 → cs[i]? = some (U (Ks.getD i 0))) : Calls Tryd.prog 85 #[.agg s.row, .slice (some ⟨g, o, none⟩) 64 c] w fun e w' => e = .returned (.agg (s.block b).row) ∧ Below w.heap.size w w' := by
 have HB := Lib.hid hb
 have HG := Lib.hid hg
 clear hb hg
 unfold St.row
 go_enter Tryd.func85, Tryd.ntmps85
 go_wp2
 go_loopg [17] 16 (fun kq v17 w' => ∃ i : Nat, v17 = .int .i64 (i : Int) ∧ i + kq = 16 ∧ Hid (w'.rowIs (w.heap.size + 1 + 1) 140 64 (sched b i)) ∧ Hid (((w.alloc (.cells s.row 132)).alloc (.cells (#[.int .u32 0, .int .u32 0, .int .u32 0, .int .u32 0, .int .u32 0, .int .u32 0, .int .u32 0, .int .u32 0]) 132)).Since (w.heap.size + 1 + 1) w'))
 case atStart => exact ⟨0, rfl, rfl, Lib.hid (((World.rowIs_alloc _ Z64 140 (sched b 0) Z64_get)).of_block' (two_size w _ _)), Lib.hid ((World.Since.refl _ _).alloc (Nat.le_of_eq (two_size w _ _).symm) _)⟩
 case round =>
  obtain ⟨i, rfl, hi, HR, HS⟩ := hrel
  by_cases h16 : i < 16
  ·
   cases gk with
   | zero => exact absurd hi (by omega)
   | succ k1 =>
    have el : decide ((i : Int) < 16) = true := decide_eq_true (by omega)
    have wi : IntKind.i64.wrap ((i : Int) + 1) = (i : Int) + 1 := IntWalk.i64_in _ (by omega)
    have i0 : (0 : Int) ≤ i := by omega
    have i1 : (i : Int) < 64 := by omega
    have h64 : i < 64 := by omega
    obtain ⟨m, hm⟩ : ∃ m : Nat, m = 4 * i := ⟨_, rfl⟩
    have e0 : IntKind.i64.wrap (4 * (i : Int)) = (m : Int) := by rw [IntWalk.i64_in _ (by omega)]; omega
    have e1 : IntKind.i64.wrap ((m : Int) + 1) = (m : Int) + 1 := IntWalk.i64_in _ (by omega)
    have e2 : IntKind.i64.wrap ((m : Int) + 2) = (m : Int) + 2 := IntWalk.i64_in _ (by omega)
    have e3 : IntKind.i64.wrap ((m : Int) + 3) = (m : Int) + 3 := IntWalk.i64_in _ (by omega)
    have t1 : ((m : Int) + 1).toNat = m + 1 := by omega
    have t2 : ((m : Int) + 2).toNat = m + 2 := by omega
    have t3 : ((m : Int) + 3).toNat = m + 3 := by omega
    have l0 : (0 : Int) ≤ m := by omega
    have l1 : (0 : Int) ≤ (m : Int) + 1 := by omega
    have l2 : (0 : Int) ≤ (m : Int) + 2 := by omega
    have l3 : (0 : Int) ≤ (m : Int) + 3 := by omega
    have r0 : (m : Int) < 64 := by omega
    have r1 : (m : Int) + 1 < 64 := by omega
    have r2 : (m : Int) + 2 < 64 := by omega
    have r3 : (m : Int) + 3 < 64 := by omega
    have HBC : ∀ j, j < 64 → wr.cell? ⟨g, o + j, none⟩ = some (Y (b j)) := fun j hj => ((two_facts HS.out).2.2.cell (World.block_lt_of_cell? w _ (HB.out j hj))).trans (HB.out j hj)
    have x0 : wr.cell? ⟨g, o + m, none⟩ = some (Y (b m)) := HBC m (by omega)
    have x1 : wr.cell? ⟨g, o + (m + 1), none⟩ = some (Y (b (m + 1))) := HBC (m + 1) (by omega)
    have x2 : wr.cell? ⟨g, o + (m + 2), none⟩ = some (Y (b (m + 2))) := HBC (m + 2) (by omega)
    have x3 : wr.cell? ⟨g, o + (m + 3), none⟩ = some (Y (b (m + 3))) := HBC (m + 3) (by omega)
    clear HBC
    have xs : ∀ x, Sem.run Tryd.prog (store ⟨w.heap.size + 1 + 1, i, none⟩ (U x)) wr.drew = .ok () (wr.drew.setCell ⟨w.heap.size + 1 + 1, i, none⟩ (U x)) := fun x => store_at HR.out.drew i h64 _ (U_one x)
    have HM := Lib.hid hm
    clear hm
    have hcv := cv
    go_wp2
    go_still_tail 34, (by kernel_rfl)
    go_wp2
    go_roundg k1
    case measure => omega
    case rel =>
     refine ⟨i + 1, congrArg (Value.int .i64) (by omega), by omega, Lib.hid (World.rowIs.drew ((HR.out.set i _).congr fun j _ => sched_step b i _ ?_ j)), Lib.hid (World.Since.drew (HS.out.setCell (a := ⟨w.heap.size + 1 + 1, i, none⟩) (Nat.le_refl _) _))⟩
     rw [Wd_small b i h16, word, ← HM.out]
  ·
   have el : decide ((i : Int) < 16) = false := decide_eq_false (by omega)
   obtain rfl : i = 16 := by omega
   go_wp2
   have HRA := HR
   have HSA := HS
   clear HR HS
   go_loopg [7] 48 (fun kq v7 w' => ∃ i : Nat, v7 = .int .i64 (i : Int) ∧ i + kq = 64 ∧ 16 ≤ i ∧ Hid (w'.rowIs (w.heap.size + 1 + 1) 140 64 (sched b i)) ∧ Hid (((w.alloc (.cells s.row 132)).alloc (.cells (#[.int .u32 0, .int .u32 0, .int .u32 0, .int .u32 0, .int .u32 0, .int .u32 0, .int .u32 0, .int .u32 0]) 132)).Since (w.heap.size + 1 + 1) w'))
   case atStart => exact ⟨16, rfl, rfl, Nat.le_refl _, HRA, HSA⟩
   case round =>
    clear HRA HSA
    obtain ⟨i, rfl, hi, hi16, HR, HS⟩ := hrel
    by_cases h64 : i < 64
    ·
     cases gk with
     | zero => exact absurd hi (by omega)
     | succ k1 =>
      have el : decide ((i : Int) < 64) = true := decide_eq_true (by omega)
      have wi : IntKind.i64.wrap ((i : Int) + 1) = (i : Int) + 1 := IntWalk.i64_in _ (by omega)
      have i0 : (0 : Int) ≤ i := by omega
      have i1 : (i : Int) < 64 := by omega
      obtain ⟨p15, h15⟩ : ∃ m : Nat, i = m + 15 := ⟨i - 15, by omega⟩
      obtain ⟨p2, h2⟩ : ∃ m : Nat, i = m + 2 := ⟨i - 2, by omega⟩
      obtain ⟨p16, hh16⟩ : ∃ m : Nat, i = m + 16 := ⟨i - 16, by omega⟩
      obtain ⟨p7, h7⟩ : ∃ m : Nat, i = m + 7 := ⟨i - 7, by omega⟩
      have e15 : IntKind.i64.wrap ((i : Int) - 15) = (p15 : Int) := by rw [IntWalk.i64_in _ (by omega)]; omega
      have e2 : IntKind.i64.wrap ((i : Int) - 2) = (p2 : Int) := by rw [IntWalk.i64_in _ (by omega)]; omega
      have ee16 : IntKind.i64.wrap ((i : Int) - 16) = (p16 : Int) := by rw [IntWalk.i64_in _ (by omega)]; omega
      have e7 : IntKind.i64.wrap ((i : Int) - 7) = (p7 : Int) := by rw [IntWalk.i64_in _ (by omega)]; omega
      have l15 : (0 : Int) ≤ p15 := by omega
      have l2 : (0 : Int) ≤ p2 := by omega
      have l16 : (0 : Int) ≤ p16 := by omega
      have l7 : (0 : Int) ≤ p7 := by omega
      have r15 : (p15 : Int) < 64 := by omega
      have r2 : (p2 : Int) < 64 := by omega
      have r16 : (p16 : Int) < 64 := by omega
      have r7 : (p7 : Int) < 64 := by omega
      have x15 : wr.cell? ⟨w.heap.size + 1 + 1, p15, none⟩ = some (U (Wd b p15)) := (HR.out.cell (by omega)).trans (congrArg some (sched_lt b i p15 (by omega)))
      have x2 : wr.cell? ⟨w.heap.size + 1 + 1, p2, none⟩ = some (U (Wd b p2)) := (HR.out.cell (by omega)).trans (congrArg some (sched_lt b i p2 (by omega)))
      have HX := Lib.hid (And.intro h15 (And.intro h2 (And.intro hh16 h7)))
      clear h15 h2 hh16 h7
      go_wp2
      go_quiet (fail)
      go_wp2
      have HR1 := Lib.hid (rowN HR.out nq)
      have HS1 := Lib.hid (sinceN HS.out nq)
      clear x15 x2
      generalize wr.drewN nq = w1 at HR1 HS1 ⊢
      have x16 : w1.cell? ⟨w.heap.size + 1 + 1, p16, none⟩ = some (U (Wd b p16)) := (HR1.out.cell (by have := HX.out; omega)).trans (congrArg some (sched_lt b i p16 (by have := HX.out; omega)))
      have x7 : w1.cell? ⟨w.heap.size + 1 + 1, p7, none⟩ = some (U (Wd b p7)) := (HR1.out.cell (by have := HX.out; omega)).trans (congrArg some (sched_lt b i p7 (by have := HX.out; omega)))
      have xs : ∀ x, Sem.run Tryd.prog (store ⟨w.heap.size + 1 + 1, i, none⟩ (U x)) w1.drew = .ok () (w1.drew.setCell ⟨w.heap.size + 1 + 1, i, none⟩ (U x)) := fun x => store_at HR1.out.drew i h64 _ (U_one x)
      refine wp_region_still_tail 28 (by kernel_rfl) (by kernel_rfl) ?_
      simp only [List.take_succ_cons, List.take_zero, List.drop_succ_cons, List.drop_zero]
      repeat still_step
      still_call (rotate_7 _ _)
      repeat still_step
      still_call (rotate_18 _ _)
      repeat still_step
      still_call (rotate_17 _ _)
      repeat still_step
      still_call (rotate_19 _ _)
      repeat still_step
      try refine wpStill_nil ?_
      go_wp2
      go_roundg k1
      case measure => omega
      case rel =>
       refine ⟨i + 1, congrArg (Value.int .i64) (by omega), by omega, by omega, Lib.hid (World.rowIs.drew ((HR1.out.set i _).congr fun j _ => sched_step b i _ ?_ j)), Lib.hid (World.Since.drew (HS1.out.setCell (a := ⟨w.heap.size + 1 + 1, i, none⟩) (Nat.le_refl _) _))⟩
       obtain ⟨q1, q2, q3, q4⟩ := HX.out
       rw [Wd_big b i (by omega), show i - 16 = p16 by omega, show i - 7 = p7 by omega, show i - 15 = p15 by omega, show i - 2 = p2 by omega, sig0, sig1]
    ·
     have el : decide ((i : Int) < 64) = false := decide_eq_false (by omega)
     obtain rfl : i = 64 := by omega
     have x0 : wr.cell? ⟨w.heap.size, 0, none⟩ = some (U s.a) := cell_of_row _ _ _ _ _ _ (two_facts HS.out).1
     have x1 : wr.cell? ⟨w.heap.size, 1, none⟩ = some (U s.b) := cell_of_row _ _ _ _ _ _ (two_facts HS.out).1
     have x2 : wr.cell? ⟨w.heap.size, 2, none⟩ = some (U s.c) := cell_of_row _ _ _ _ _ _ (two_facts HS.out).1
     have x3 : wr.cell? ⟨w.heap.size, 3, none⟩ = some (U s.d) := cell_of_row _ _ _ _ _ _ (two_facts HS.out).1
     have x4 : wr.cell? ⟨w.heap.size, 4, none⟩ = some (U s.e) := cell_of_row _ _ _ _ _ _ (two_facts HS.out).1
     have x5 : wr.cell? ⟨w.heap.size, 5, none⟩ = some (U s.f) := cell_of_row _ _ _ _ _ _ (two_facts HS.out).1
     have x6 : wr.cell? ⟨w.heap.size, 6, none⟩ = some (U s.g) := cell_of_row _ _ _ _ _ _ (two_facts HS.out).1
     have x7 : wr.cell? ⟨w.heap.size, 7, none⟩ = some (U s.h) := cell_of_row _ _ _ _ _ _ (two_facts HS.out).1
     have HQ := Lib.hid (heap_alloc_new wr (.cells (#[.int .u32 0, .int .u32 0, .int .u32 0, .int .u32 0, .int .u32 0, .int .u32 0, .int .u32 0, .int .u32 0]) 132))
     go_wp2_with ((with_reducible refine gate_store (t := 132) (p := 10) rfl ?_); refine store_event (t := 132) (p := 10) (v := ?vo) (w1 := (wr.alloc (.cells (#[.int .u32 0, .int .u32 0, .int .u32 0, .int .u32 0, .int .u32 0, .int .u32 0, .int .u32 0, .int .u32 0]) 132)).setRow wr.heap.size s.row) ?hg ?ho ?hn ?hr ?_; (case ho => rfl); (case hg => rfl); (case hn => rfl); (case hr => exact store_row_run rfl wr.heap.size rfl s.row rfl 132 _ HQ.out rfl (row_one _) info8); intro wz hw; have HT0 : Hid (wz.heap[wr.heap.size]? = some (.cells s.row 132 (0, 0))) := (by rw [hw]; exact setRow_heap _ _ _ _ _ _ HQ.out); have HZ0 : Hid (Below wr.heap.size wr wz) := (by rw [hw]; exact setRow_below _ _ _ _ _ (Below.alloc (Below.refl _ _) (Nat.le_refl _) _) (Nat.le_refl _)); clear hw x0 x1 x2 x3 x4 x5 x6 x7)
     obtain ⟨wa, hwa⟩ : ∃ wa, wa = wr := ⟨_, rfl⟩
     subst hwa
     have HK : Hid (∀ i, i < 64 → wa.cell? ⟨0, i, none⟩ = some (U (Ks[i]?.getD 0#32))) := by
      obtain ⟨cs, t, fr, h1, h2⟩ := HG.out
      have h0 : 0 < w.heap.size := (Array.getElem?_eq_some_iff.1 h1).1
      exact fun i hi => (cell_of_row _ _ _ _ _ _ (((two_facts HS.out).2.2.block 0 h0).trans h1)).trans (h2 i hi)
     have HK0 : Hid (0 < wa.heap.size) := Nat.lt_of_le_of_lt (Nat.zero_le _) HR.out.lt
     go_loopg [98] 64 (fun kq v98 w' => ∃ (i : Nat) (t : St), v98 = .int .i64 (i : Int) ∧ i + kq = 64 ∧ Hid (St.rounds b s i = t) ∧ Hid (w'.heap[wa.heap.size]? = some (.cells t.row 132 (0, 0))) ∧ Hid (Below wa.heap.size wa w'))
     case atStart => exact ⟨0, s, rfl, rfl, Lib.hid rfl, HT0, HZ0⟩
     case round =>
      clear HT0 HZ0
      obtain ⟨i, t, rfl, hi, HT, HQ1, HB1⟩ := hrel
      by_cases h64 : i < 64
      ·
       cases gk with
       | zero => exact absurd hi (by omega)
       | succ k1 =>
       have el : decide ((i : Int) < 64) = true := decide_eq_true (by omega)
       have wi : IntKind.i64.wrap ((i : Int) + 1) = (i : Int) + 1 := IntWalk.i64_in _ (by omega)
       have i0 : (0 : Int) ≤ i := by omega
       have i1 : (i : Int) < 64 := by omega
       have y0 : wr.cell? ⟨wa.heap.size, 0, none⟩ = some (U t.a) := cell_of_row _ _ _ _ _ _ HQ1.out
       have y1 : wr.cell? ⟨wa.heap.size, 1, none⟩ = some (U t.b) := cell_of_row _ _ _ _ _ _ HQ1.out
       have y2 : wr.cell? ⟨wa.heap.size, 2, none⟩ = some (U t.c) := cell_of_row _ _ _ _ _ _ HQ1.out
       have y3 : wr.cell? ⟨wa.heap.size, 3, none⟩ = some (U t.d) := cell_of_row _ _ _ _ _ _ HQ1.out
       have y4 : wr.cell? ⟨wa.heap.size, 4, none⟩ = some (U t.e) := cell_of_row _ _ _ _ _ _ HQ1.out
       have y5 : wr.cell? ⟨wa.heap.size, 5, none⟩ = some (U t.f) := cell_of_row _ _ _ _ _ _ HQ1.out
       have y6 : wr.cell? ⟨wa.heap.size, 6, none⟩ = some (U t.g) := cell_of_row _ _ _ _ _ _ HQ1.out
       have y7 : wr.cell? ⟨wa.heap.size, 7, none⟩ = some (U t.h) := cell_of_row _ _ _ _ _ _ HQ1.out
       go_wp2
       go_quiet (fail)
       go_wp2
       clear y0 y1 y2 y3 y4 y5 y6 y7
       have HQ2 : Hid ((wr.drewN nq).heap[wa.heap.size]? = some (.cells t.row 132 (0, 0))) := by rw [heapN]; exact HQ1.out
       have HB2 := Lib.hid (belowN HB1.out nq)
       generalize wr.drewN nq = w1 at HQ2 HB2 ⊢
       have xw : w1.cell? ⟨w.heap.size + 1 + 1, i, none⟩ = some (U (Wd b i)) := (HB2.out.cell HR.out.lt).trans ((HR.out.cell h64).trans (congrArg some (sched_lt b 64 i h64)))
       have xr : w1.cell? ⟨0, i, none⟩ = some (U (Ks[i]?.getD 0#32)) := (HB2.out.cell HK0.out).trans (HK.out i h64)
       have y0 : w1.cell? ⟨wa.heap.size, 0, none⟩ = some (U t.a) := cell_of_row _ _ _ _ _ _ HQ2.out
       have y1 : w1.cell? ⟨wa.heap.size, 1, none⟩ = some (U t.b) := cell_of_row _ _ _ _ _ _ HQ2.out
       have y2 : w1.cell? ⟨wa.heap.size, 2, none⟩ = some (U t.c) := cell_of_row _ _ _ _ _ _ HQ2.out
       have y3 : w1.cell? ⟨wa.heap.size, 3, none⟩ = some (U t.d) := cell_of_row _ _ _ _ _ _ HQ2.out
       have y4 : w1.cell? ⟨wa.heap.size, 4, none⟩ = some (U t.e) := cell_of_row _ _ _ _ _ _ HQ2.out
       have y5 : w1.cell? ⟨wa.heap.size, 5, none⟩ = some (U t.f) := cell_of_row _ _ _ _ _ _ HQ2.out
       have y6 : w1.cell? ⟨wa.heap.size, 6, none⟩ = some (U t.g) := cell_of_row _ _ _ _ _ _ HQ2.out
       have y7 : w1.cell? ⟨wa.heap.size, 7, none⟩ = some (U t.h) := cell_of_row _ _ _ _ _ _ HQ2.out
       go_quiet (first
        | (with_reducible exact rotate_q6 _ _ _)
        | (with_reducible exact rotate_q11 _ _ _)
        | (with_reducible exact rotate_q25 _ _ _))
       go_wp2
       clear xw xr
       clear y0 y1 y2 y3 y4 y5 y6 y7
       have HQ3 : Hid ((w1.drewN nq).heap[wa.heap.size]? = some (.cells t.row 132 (0, 0))) := by rw [heapN]; exact HQ2.out
       have HB3 := Lib.hid (belowN HB2.out nq)
       generalize w1.drewN nq = w2 at HQ3 HB3 ⊢
       have y0 : w2.cell? ⟨wa.heap.size, 0, none⟩ = some (U t.a) := cell_of_row _ _ _ _ _ _ HQ3.out
       have y1 : w2.cell? ⟨wa.heap.size, 1, none⟩ = some (U t.b) := cell_of_row _ _ _ _ _ _ HQ3.out
       have y2 : w2.cell? ⟨wa.heap.size, 2, none⟩ = some (U t.c) := cell_of_row _ _ _ _ _ _ HQ3.out
       have y3 : w2.cell? ⟨wa.heap.size, 3, none⟩ = some (U t.d) := cell_of_row _ _ _ _ _ _ HQ3.out
       have y4 : w2.cell? ⟨wa.heap.size, 4, none⟩ = some (U t.e) := cell_of_row _ _ _ _ _ _ HQ3.out
       have y5 : w2.cell? ⟨wa.heap.size, 5, none⟩ = some (U t.f) := cell_of_row _ _ _ _ _ _ HQ3.out
       have y6 : w2.cell? ⟨wa.heap.size, 6, none⟩ = some (U t.g) := cell_of_row _ _ _ _ _ _ HQ3.out
       have y7 : w2.cell? ⟨wa.heap.size, 7, none⟩ = some (U t.h) := cell_of_row _ _ _ _ _ _ HQ3.out
       go_quiet (first
        | (with_reducible exact rotate_q2 _ _ _)
        | (with_reducible exact rotate_q13 _ _ _)
        | (with_reducible exact rotate_q22 _ _ _))
       clear y0 y1 y2 y3 y4 y5 y6 y7
       have HQ4 : Hid ((w2.drewN nq).heap[wa.heap.size]? = some (.cells t.row 132 (0, 0))) := by rw [heapN]; exact HQ3.out
       have HB4 := Lib.hid (belowN HB3.out nq)
       generalize w2.drewN nq = w3 at HQ4 HB4 ⊢
       have y0 : w3.cell? ⟨wa.heap.size, 0, none⟩ = some (U t.a) := cell_of_row _ _ _ _ _ _ HQ4.out
       have y1 : w3.cell? ⟨wa.heap.size, 1, none⟩ = some (U t.b) := cell_of_row _ _ _ _ _ _ HQ4.out
       have y2 : w3.cell? ⟨wa.heap.size, 2, none⟩ = some (U t.c) := cell_of_row _ _ _ _ _ _ HQ4.out
       have y3 : w3.cell? ⟨wa.heap.size, 3, none⟩ = some (U t.d) := cell_of_row _ _ _ _ _ _ HQ4.out
       have y4 : w3.cell? ⟨wa.heap.size, 4, none⟩ = some (U t.e) := cell_of_row _ _ _ _ _ _ HQ4.out
       have y5 : w3.cell? ⟨wa.heap.size, 5, none⟩ = some (U t.f) := cell_of_row _ _ _ _ _ _ HQ4.out
       have y6 : w3.cell? ⟨wa.heap.size, 6, none⟩ = some (U t.g) := cell_of_row _ _ _ _ _ _ HQ4.out
       have y7 : w3.cell? ⟨wa.heap.size, 7, none⟩ = some (U t.h) := cell_of_row _ _ _ _ _ _ HQ4.out
       go_wp2_with ((with_reducible refine gate_store (t := 132) (p := 10) rfl ?_); refine store_event (t := 132) (p := 10) (v := ?vo1) (w1 := w3.setRow wa.heap.size (t.round (Ks[i]?.getD 0#32) (Wd b i)).row) ?hg1 ?ho1 ?hn1 ?hr1 ?_; (case ho1 => rfl); (case hg1 => rfl); (case hn1 => rfl); (case hr1 => exact store_row_run rfl wa.heap.size rfl (t.round (Ks[i]?.getD 0#32) (Wd b i)).row rfl 132 _ HQ4.out rfl (row_one _) info8); intro wz hw; have HT5 : Hid (wz.heap[wa.heap.size]? = some (.cells (t.round (Ks[i]?.getD 0#32) (Wd b i)).row 132 (0, 0))) := (by rw [hw]; exact setRow_heap _ _ _ _ _ _ HQ4.out); have HZ5 : Hid (Below wa.heap.size wa wz) := (by rw [hw]; exact setRow_below _ _ _ _ _ HB4.out (Nat.le_refl _)); clear hw y0 y1 y2 y3 y4 y5 y6 y7)
       go_roundg k1
       case measure => omega
       case rel => exact ⟨i + 1, t.round (Ks[i]?.getD 0#32) (Wd b i), congrArg (Value.int .i64) (by omega), by omega, Lib.hid (by rw [St.rounds, HT.out]; rfl), HT5, HZ5⟩
      ·
       have el : decide ((i : Int) < 64) = false := decide_eq_false (by omega)
       obtain rfl : i = 64 := by omega
       have hH := (HB1.out.block w.heap.size (by have := HR.out.lt; omega)).trans (two_facts HS.out).1
       have hR := (HB1.out.block (w.heap.size + 1) (by have := HR.out.lt; omega)).trans (two_facts HS.out).2.1
       have HLT : Hid (w.heap.size + 1 < wa.heap.size) := Lib.hid (by have := HR.out.lt; omega)
       have HI0 : Hid (wr.rowIs w.heap.size 132 8 (mix s t 0)) := Lib.hid ((row_is hH).congr fun j _ => rfl)
       have HR0 := Lib.hid hR
       have HBB := Lib.hid ((two_facts HS.out).2.2.trans (HB1.out.mono (by have := HR.out.lt; omega)))
       clear hH hR
       go_wp2
       go_loopg [180] 8 (fun kq v180 w' => ∃ (i : Nat), v180 = .int .i64 (i : Int) ∧ i + kq = 8 ∧ Hid (w'.rowIs w.heap.size 132 8 (mix s t i)) ∧ Hid (w'.heap[wa.heap.size]? = some (.cells t.row 132 (0, 0))) ∧ Hid (w'.heap[w.heap.size + 1]? = some (.cells (#[.int .u32 0, .int .u32 0, .int .u32 0, .int .u32 0, .int .u32 0, .int .u32 0, .int .u32 0, .int .u32 0]) 132 (0, 0))) ∧ Hid (Below w.heap.size w w'))
       case atStart => exact ⟨0, rfl, rfl, HI0, HQ1, HR0, HBB⟩
       case round =>
        clear HI0 HQ1 HR0 HBB HB1
        obtain ⟨i, rfl, hi, HI, HQ1, HR0, HBB⟩ := hrel
        by_cases h8 : i < 8
        ·
         cases gk with
         | zero => exact absurd hi (by omega)
         | succ k1 =>
         have el : decide ((i : Int) < 8) = true := decide_eq_true (by omega)
         have wi : IntKind.i64.wrap ((i : Int) + 1) = (i : Int) + 1 := IntWalk.i64_in _ (by omega)
         have i0 : (0 : Int) ≤ i := by omega
         have i1 : (i : Int) < 8 := by omega
         have xa : wr.cell? ⟨w.heap.size, i, none⟩ = some (U (s.get i)) := (HI.out.cell h8).trans (congrArg some (if_neg (Nat.lt_irrefl i)))
         have xt : wr.cell? ⟨wa.heap.size, i, none⟩ = some (U (t.get i)) := (cell_of_row _ _ _ _ _ _ HQ1.out).trans (row_get t i h8)
         have xs : ∀ x, Sem.run Tryd.prog (store ⟨w.heap.size, i, none⟩ (U x)) wr.drew = .ok () (wr.drew.setCell ⟨w.heap.size, i, none⟩ (U x)) := fun x => store_at HI.out.drew i h8 _ (U_one x)
         go_wp2
         go_still_tail 8, (by kernel_rfl)
         go_wp2
         go_roundg k1
         case measure => omega
         case rel => exact ⟨i + 1, congrArg (Value.int .i64) (by omega), by omega, Lib.hid (World.rowIs.drew ((HI.out.set i _).congr fun j _ => mix_step s t i j)), Lib.hid ((heap_setCell_other wr ⟨w.heap.size, i, none⟩ wa.heap.size _ (by show wa.heap.size ≠ w.heap.size; have := HLT.out; omega)).trans HQ1.out), Lib.hid ((heap_setCell_other wr ⟨w.heap.size, i, none⟩ (w.heap.size + 1) _ (by show w.heap.size + 1 ≠ w.heap.size; omega)).trans HR0.out), Lib.hid (Below.drew (HBB.out.setCell (p := ⟨w.heap.size, i, none⟩) (Nat.le_refl _) _))⟩
        ·
         have el : decide ((i : Int) < 8) = false := decide_eq_false (by omega)
         obtain rfl : i = 8 := by omega
         have HF : Hid (wr.heap[w.heap.size]? = some (.cells (s.plus t).row 132 (0, 0))) := Lib.hid (is_row (HI.out.congr fun j hj => if_pos hj))
         have y0 : wr.cell? ⟨w.heap.size, 0, none⟩ = some (U (s.a + t.a)) := cell_of_row _ _ _ _ _ _ HF.out
         have y1 : wr.cell? ⟨w.heap.size, 1, none⟩ = some (U (s.b + t.b)) := cell_of_row _ _ _ _ _ _ HF.out
         have y2 : wr.cell? ⟨w.heap.size, 2, none⟩ = some (U (s.c + t.c)) := cell_of_row _ _ _ _ _ _ HF.out
         have y3 : wr.cell? ⟨w.heap.size, 3, none⟩ = some (U (s.d + t.d)) := cell_of_row _ _ _ _ _ _ HF.out
         have y4 : wr.cell? ⟨w.heap.size, 4, none⟩ = some (U (s.e + t.e)) := cell_of_row _ _ _ _ _ _ HF.out
         have y5 : wr.cell? ⟨w.heap.size, 5, none⟩ = some (U (s.f + t.f)) := cell_of_row _ _ _ _ _ _ HF.out
         have y6 : wr.cell? ⟨w.heap.size, 6, none⟩ = some (U (s.g + t.g)) := cell_of_row _ _ _ _ _ _ HF.out
         have y7 : wr.cell? ⟨w.heap.size, 7, none⟩ = some (U (s.h + t.h)) := cell_of_row _ _ _ _ _ _ HF.out
         go_wp2_with ((with_reducible refine gate_store (t := 132) (p := 4) rfl ?_); refine store_event (t := 132) (p := 4) (v := ?vo2) (w1 := wr.setRow (w.heap.size + 1) (s.plus t).row) ?hg2 ?ho2 ?hn2 ?hr2 ?_; (case ho2 => rfl); (case hg2 => rfl); (case hn2 => rfl); (case hr2 => exact store_row_run rfl (w.heap.size + 1) rfl (s.plus t).row rfl 132 _ HR0.out rfl (row_one _) info8); intro wz hw; have HW := Lib.hid hw; clear hw y0 y1 y2 y3 y4 y5 y6 y7)
         (try simp only [Exit.inBlock, Exit.then])
         have hz : wz.heap[w.heap.size + 1]? = some (.cells (s.plus t).row 132 (0, 0)) := by rw [HW.out]; exact setRow_heap _ _ _ _ _ _ HR0.out
         obtain ⟨na, ta, hu8⟩ := und8
         refine bodyPost_ret (results_cell_row rfl _ _ (w.heap.size + 1) 132 (s.plus t).row (0, 0) (.array na ta) rfl hz hu8 rfl info8) rfl ?_
         refine ⟨?_, ?_⟩
         ·
          rw [← HT.out]; rfl
         ·
          rw [HW.out]
          exact setRow_below _ _ _ _ _ HBB.out (by omega)
end Go.Proofs.YtdidopoalmkhlaaDoor.Sha
end
section
namespace Go.Proofs.YtdidopoalmkhlaaDoor.Sha
open Go Go.RowKit
set_option linter.unusedVariables false
def ownsB (w : World) (base : Nat) (e : TypeId) (v : Value) (xs : List Value) : Prop :=
  ((v = .slice none 0 0 ∧ xs = []) ∨
   ∃ g cap cur fr, v = .slice (some ⟨g, 0, none⟩) xs.length cap ∧ base ≤ g ∧ w.heap[g]? = some (.cells cur e fr) ∧ (fr = (0, 0) ∨ cur.size ≤ fr.1) ∧ xs.length ≤ cap ∧ cap ≤ maxLen ∧ cur.size = cap ∧ cur.toList.take xs.length = xs)
section
variable {P : Program}
end
end Go.Proofs.YtdidopoalmkhlaaDoor.Sha
end
section
namespace Go.Proofs.YtdidopoalmkhlaaDoor.Sha
open Go Go.RowKit
set_option linter.unusedVariables false
set_option linter.unusedSimpArgs false
def bytesY (s : ByteArray) : List Value := s.data.toList.map (fun c => Y c.toBitVec)
def bytesB (s : ByteArray) : List (BitVec 8) := s.data.toList.map UInt8.toBitVec
theorem bytesY_eq (s : ByteArray) : bytesY s = (bytesB s).map Y := by
 unfold bytesY bytesB
 rw [List.map_map]
 rfl
theorem bytesB_length (s : ByteArray) : (bytesB s).length = s.size := by unfold bytesB; rw [List.length_map]; rfl
def eight (n : Nat) : List (BitVec 8) := [BitVec.ofNat 8 (n / 72057594037927936), BitVec.ofNat 8 (n / 281474976710656), BitVec.ofNat 8 (n / 1099511627776), BitVec.ofNat 8 (n / 4294967296), BitVec.ofNat 8 (n / 16777216), BitVec.ofNat 8 (n / 65536), BitVec.ofNat 8 (n / 256), BitVec.ofNat 8 n]
def padB (m : List (BitVec 8)) : List (BitVec 8) := m ++ [128#8] ++ List.replicate ((120 - (m.length + 1) % 64) % 64) 0#8 ++ eight (m.length * 8)
theorem Y_of (n : Nat) (m : Int) (h : m = ((n % 256 : Nat) : Int)) : (.int .u8 m : Value) = Y (BitVec.ofNat 8 n) := by
 rw [Y_def, h, BitVec.toNat_ofNat]
theorem info_u8 : ∃ i0, Tryd.prog.info? 5 = some i0 ∧ i0.zero = some (.int .u8 0) ∧ i0.size = 1 ∧ i0.bytes = 1 := by
 have h : (Tryd.prog.info? 5).map (fun i => (i.zero, i.size, i.bytes)) = some (some (.int .u8 0), 1, 1) := by kernel_rfl
 cases hq : Tryd.prog.info? 5 with
 | none => rw [hq] at h; cases h
 | some i0 => rw [hq] at h; simp at h; exact ⟨i0, rfl, h.1, h.2.1, h.2.2⟩
end Go.Proofs.YtdidopoalmkhlaaDoor.Sha
end
section
namespace Go.Proofs.YtdidopoalmkhlaaDoor.Sha
open Go Go.RowKit Go.Proofs.YtdidopoalmkhlaaDoorW.PrintWords Go.Proofs.YtdidopoalmkhlaaDoorW.PrintLast Go.Proofs.YtdidopoalmkhlaaDoorW.PrintMore
set_option linter.unusedVariables false
set_option linter.unusedSimpArgs false
attribute [local go_sem] u_and u_or u_xor u_add u_sub u_mul u_shl_24 u_shl_16 u_shl_8 u_shr_3 u_shr_10 u_shr_24 u_shr_16 u_shr_8 u_shl' u_shr' u_not
attribute [local go_sem high] U_cells
attribute [local go_sem] U_match
theorem Y_cells (x : BitVec 8) : (Y x).cells = #[Y x] := by rw [Y_def]; rfl
theorem Y_match {α : Sort _} (x : BitVec 8) (f : Array Value → α) (g : Value → α) : Value.cells.match_1 (fun _ => α) (Y x) f g = g (Y x) := by rw [Y_def]
attribute [local go_sem high] Y_cells
attribute [local go_sem] Y_match
def H0 : St := ⟨0x6a09e667#32, 0xbb67ae85#32, 0x3c6ef372#32, 0xa54ff53a#32, 0x510e527f#32, 0x9b05688c#32, 0x1f83d9ab#32, 0x5be0cd19#32⟩
def St.fold (s : St) (l : List (BitVec 8)) : Nat → St
 | 0 => s
 | n + 1 => (St.fold s l n).block (fun j => l.getD (64 * n + j) 0#8)
def fourB (x : BitVec 32) : List (BitVec 8) := [(x >>> 24).truncate 8, (x >>> 16).truncate 8, (x >>> 8).truncate 8, x.truncate 8]
def St.out (s : St) (n : Nat) : List (BitVec 8) := (List.range n).flatMap fun j => fourB (s.get j)
def ofB (l : List (BitVec 8)) : ByteArray := ⟨(l.map UInt8.ofBitVec).toArray⟩
def sha (m : List (BitVec 8)) : List (BitVec 8) := (St.fold H0 (padB m) ((padB m).length / 64)).out 8
def H0L : Array Value := #[.int .u32 1779033703, .int .u32 3144134277, .int .u32 1013904242, .int .u32 2773480762, .int .u32 1359893119, .int .u32 2600822924, .int .u32 528734635, .int .u32 1541459225]
theorem eight_length (n : Nat) : (eight n).length = 8 := rfl
theorem Y_all (l : List (BitVec 8)) : ∀ u ∈ l.map Y, u.oneCell' = true := by
 intro u hu
 obtain ⟨x, _, rfl⟩ := List.mem_map.1 hu
 exact Y_one x
theorem out_length (t : St) (n : Nat) : (t.out n).length = 4 * n := by
 induction n with
 | zero => rfl
 | succ n ih =>
  unfold St.out at ih ⊢
  rw [List.range_succ, List.flatMap_append, List.length_append, ih]
  simp [fourB]
  omega
theorem out_succ (t : St) (n : Nat) : t.out (n + 1) = t.out n ++ fourB (t.get n) := by
 unfold St.out
 rw [List.range_succ, List.flatMap_append]
 simp
theorem und_bytes : Tryd.prog.underlying 101 = some (.slice 5) ∧ Tryd.prog.underlying 5 = some (.int .u8) ∧ Tryd.prog.underlying 9 = some .string := ⟨by kernel_rfl, by kernel_rfl, by kernel_rfl⟩
theorem string_of_row {w : World} {base : Nat} {v : Value} {n : Nat} {l : List (BitVec 8)} (hn : 0 < n) (h : w.ownsRow base 5 1 v n (l.map Y)) : ∃ g cap, v = .slice (some ⟨g, 0, none⟩) n cap ∧ base ≤ g ∧ ∀ w1 : World, w1.heap = w.heap → (convert 101 9 (.slice (some ⟨g, 0, none⟩) n cap)).run Tryd.prog w1 = .ok (.string (ofB l)) w1 := by
 have hl : l.length = n := by have := h.1; rw [List.length_map] at this; omega
 rcases h.2 with ⟨_, h0⟩ | ⟨g, cap, cur, hv, hb, hg, hnc, _, hs, ht⟩
 ·
  omega
 ·
  refine ⟨g, cap, hv, hb, fun w1 hw1 => ?_⟩
  have hlen : (l.map UInt8.ofBitVec).length = n := by rw [List.length_map, hl]
  have := run_convert_bytes_back (P := Tryd.prog) w1 101 9 5 ⟨g, 0, none⟩ cap (l.map UInt8.ofBitVec) und_bytes.1 und_bytes.2.1 und_bytes.2.2 (fun j hj => by
   rw [hlen] at hj
   rw [Addr.add_lit, Nat.zero_add]
   have hg1 : w1.heap[g]? = some (.cells cur 5 (0, 0)) := by rw [hw1]; exact hg
   rw [cell_of_row _ _ _ _ _ _ hg1]
   have h2 := congrArg (fun x => x[j]?) ht
   simp only [List.getElem?_take, List.getElem?_map] at h2
   rw [if_pos (by omega), Array.getElem?_toList] at h2
   rw [h2, List.getElem?_eq_getElem (by omega), List.getElem_map]
   simp only [Option.map_some]
   rw [Y_def]
   rfl)
  rw [hlen] at this
  exact this
end Go.Proofs.YtdidopoalmkhlaaDoor.Sha
end
section
namespace Go.Proofs.YtdidopoalmkhlaaDoor.Sha
open Go Go.RowKit Go.Proofs.YtdidopoalmkhlaaDoorW.PrintWords Go.Proofs.YtdidopoalmkhlaaDoorW.PrintLast Go.Proofs.YtdidopoalmkhlaaDoorW.PrintMore
set_option linter.unusedVariables false
set_option linter.unusedSimpArgs false
def Reads (w : World) (v : Value) (l : List (BitVec 8)) : Prop :=
 (v = .slice none 0 0 ∧ l = []) ∨ ∃ gr o c, v = .slice (some ⟨gr, o, none⟩) l.length c ∧ l.length ≤ c ∧ ∀ j u, (l.map Y)[j]? = some u → w.cell? ⟨gr, o + j, none⟩ = some u
theorem Reads.of_own {w : World} {base n : Nat} {v : Value} {l : List (BitVec 8)} (h : w.ownsRow base 5 1 v n (l.map Y)) : Reads w v l := by
 have hl : l.length = n := by have := h.1; rw [List.length_map] at this; omega
 rcases h.2 with ⟨h1, h0⟩ | ⟨g, cap, cur, hv, hb, hg, hnc, _, hs, ht⟩
 ·
  exact .inl ⟨h1, List.eq_nil_of_length_eq_zero (hl.trans h0)⟩
 ·
  subst hl
  refine .inr ⟨g, 0, cap, hv, hnc, fun j u hu => ?_⟩
  have := h.cells (g := g) (by rw [hv]; rfl) j u hu
  rw [Addr.add_lit] at this
  exact this
theorem Reads.cellD {w : World} {l : List (BitVec 8)} {gr o : Nat} (h : ∀ j u, (l.map Y)[j]? = some u → w.cell? ⟨gr, o + j, none⟩ = some u) (j : Nat) (hj : j < l.length) : w.cell? ⟨gr, o + j, none⟩ = some (Y (l.getD j 0#8)) := by
 refine h j _ ?_
 rw [List.getElem?_map, List.getD_eq_getElem?_getD, List.getElem?_eq_getElem hj]
 rfl
theorem length_of_own {w : World} {base n : Nat} {v : Value} {l : List (BitVec 8)} (h : w.ownsRow base 5 1 v n (l.map Y)) : l.length = n := by have := h.1; rw [List.length_map] at this; omega
theorem run_append_rest {w : World} (base : Nat) (ty : TypeId) (v : Value) (l : List (BitVec 8)) (h : Reads w v l) (hl : l.length ≤ 140737488355328) (hbase : base ≤ w.heap.size) :
  ∃ v' w', (Builtin.append_ #[101, 101] ty #[.slice none 0 0, v]).run Tryd.prog w = .ok v' w' ∧ w'.ownsRow base 5 1 v' l.length (l.map Y) ∧ w.grownBy w' none := by
 obtain ⟨i0, hi, hz0, hz1, hz2⟩ := info_u8
 rcases h with ⟨rfl, rfl⟩ | ⟨gr, o, c, rfl, hlc, hc⟩
 ·
  refine ⟨.slice none 0 0, w, ?_, World.ownsRow_nil w base _ 1, ⟨rfl, rfl, rfl, Nat.le_refl _, fun _ _ _ => rfl⟩⟩
  simp [Builtin.append_, run_underlying und_bytes.1, sizeOf, typeInfo, hi, Builtin.lenOf, Builtin.firstCells, loadCells, loadCellsFrom]
 ·
  obtain ⟨v', w', h2, h3, h4, _⟩ := run_append_own (P := Tryd.prog) w base 101 ty 5 i0 _ 1 1 und_bytes.1 hi hz0 hz1 hz2 rfl (by decide) (.slice none 0 0) 0 [] (World.ownsRow_nil w base _ 1) ⟨gr, o, none⟩ l.length c (l.map Y) (by simp) (fun j u hu => by rw [Addr.add_lit]; exact hc j u hu) (Y_all l) (by unfold maxLen; omega) (by omega) hbase
  rw [Nat.zero_add, List.nil_append] at h3
  exact ⟨v', w', h2, h3, h4⟩
theorem wpList_append_rest {w : World} {ops : Array Oper} {rest : List Oper} {o : Oper} {a : Act} {Q : Exit → Act → World → Prop} (hgd : o.guard = none) (s x : Operand)
  (ho : o.op = .call { callee := .builtin .append, args := #[s, x], argTypes := #[101, 101] }) (base : Nat) (v : Value) (l : List (BitVec 8)) (hs : a.eval s = .slice none 0 0) (hx : a.eval x = v) (h : Reads w v l) (hl : l.length ≤ 140737488355328) (hbase : base ≤ w.heap.size)
  (hk : ∀ v' w', w'.ownsRow base 5 1 v' l.length (l.map Y) → w.grownBy w' none → wpList Tryd.prog ops Q rest (a.put o.dst v') w') : wpList Tryd.prog ops Q (o :: rest) a w := by
 refine wpList_plain hgd fun K hK => ?_
 obtain ⟨v', w', hr, h2, h3⟩ := run_append_rest base o.type v l h hl hbase
 unfold Oper.wp execOp
 simp only [ho, resolve, invoke, builtin, Sem.run_bind, Sem.run_pure, Result.andThen_ok, List.map_toArray, List.map_cons, List.map_nil, hs, hx, hr]
 exact hK _ _ (hk v' w' h2 h3)
def ReadsG (w : World) (g : Nat) (v : Value) (l : List (BitVec 8)) : Prop :=
 (v = .slice none 0 0 ∧ l = []) ∨ ∃ gr o c, v = .slice (some ⟨gr, o, none⟩) l.length c ∧ l.length ≤ c ∧ g < gr ∧ ∀ j u, (l.map Y)[j]? = some u → w.cell? ⟨gr, o + j, none⟩ = some u
theorem ReadsG.reads {w : World} {g : Nat} {v : Value} {l : List (BitVec 8)} (h : ReadsG w g v l) : Reads w v l := by
 rcases h with h | ⟨gr, o, c, h1, h2, _, h3⟩
 ·
  exact .inl h
 ·
  exact .inr ⟨gr, o, c, h1, h2, h3⟩
theorem ReadsG.kept {w w' : World} {g : Nat} {v : Value} {l : List (BitVec 8)} (h : ReadsG w g v l) (hk : ∀ a : Addr, g < a.block → a.block < w.heap.size → w'.cell? a = w.cell? a) : ReadsG w' g v l := by
 rcases h with h | ⟨gr, o, c, h1, h2, h4, h3⟩
 ·
  exact .inl h
 ·
  exact .inr ⟨gr, o, c, h1, h2, h4, fun j u hu => (hk _ h4 (World.block_lt_of_cell? w _ (h3 j u hu))).trans (h3 j u hu)⟩
theorem ReadsG.of_own {w : World} {g n : Nat} {v : Value} {l : List (BitVec 8)} (h : w.ownsRow (g + 1) 5 1 v n (l.map Y)) : ReadsG w g v l := by
 have hl : l.length = n := by have := h.1; rw [List.length_map] at this; omega
 rcases h.2 with ⟨h1, h0⟩ | ⟨gr, cap, cur, hv, hb, hg, hnc, _, hs, ht⟩
 ·
  exact .inl ⟨h1, List.eq_nil_of_length_eq_zero (hl.trans h0)⟩
 ·
  subst hl
  refine .inr ⟨gr, 0, cap, hv, hnc, hb, fun j u hu => ?_⟩
  have := h.cells (g := gr) (by rw [hv]; rfl) j u hu
  rw [Addr.add_lit] at this
  exact this
theorem fold_add (s : St) (M : List (BitVec 8)) (d j : Nat) : St.fold s M (d + j) = St.fold (St.fold s M d) (M.drop (64 * d)) j := by
 induction j with
 | zero => rfl
 | succ j ih =>
  rw [← Nat.add_assoc, St.fold, St.fold, ih]
  congr 1
  funext i
  rw [List.getD_eq_getElem?_getD, List.getD_eq_getElem?_getD, List.getElem?_drop]
  congr 2
  omega
theorem own_slice {w : World} {base n : Nat} {e : TypeId} {v : Value} {xs : List Value} (h : w.ownsRow base e 1 v n xs) : ∃ a l c, v = .slice a l c := by
 rcases h.2 with ⟨h1, _⟩ | ⟨gr, cap, cur, hv, _⟩
 ·
  exact ⟨_, _, _, h1⟩
 ·
  exact ⟨_, _, _, hv⟩
def HCc (s : St) (v : Value) (n : Nat) : Array Value := #[U s.a, U s.b, U s.c, U s.d, U s.e, U s.f, U s.g, U s.h, v, .int .u64 (n : Int)]
def isHash (w : World) (g : Nat) (M : List (BitVec 8)) : Prop :=
 ∃ v, w.heap[g]? = some (.cells (HCc (St.fold H0 M (M.length / 64)) v M.length) 134 (0, 0)) ∧ w.ownsRow (g + 1) 5 1 v (M.length % 64) ((M.drop (64 * (M.length / 64))).map Y)
theorem Wd_congr (b b' : Nat → BitVec 8) (h : ∀ j, j < 64 → b j = b' j) (i : Nat) : Wd b i = Wd b' i := by
 induction i using Nat.strongRecOn with
 | _ i ih =>
  by_cases h16 : i < 16
  ·
   rw [Wd_small b i h16, Wd_small b' i h16, word, word, h _ (by omega), h _ (by omega), h _ (by omega), h _ (by omega)]
  ·
   rw [Wd_big b i (by omega), Wd_big b' i (by omega), ih _ (by omega), ih _ (by omega), ih _ (by omega), ih _ (by omega)]
theorem rounds_congr (b b' : Nat → BitVec 8) (h : ∀ j, j < 64 → b j = b' j) (t : St) (n : Nat) : St.rounds b t n = St.rounds b' t n := by
 induction n with
 | zero => rfl
 | succ n ih => rw [St.rounds, St.rounds, ih, Wd_congr b b' h]
theorem block_congr (b b' : Nat → BitVec 8) (h : ∀ j, j < 64 → b j = b' j) (t : St) : t.block b = t.block b' := by
 rw [St.block, St.block, rounds_congr b b' h]
theorem fold_append (s : St) (M X : List (BitVec 8)) (n : Nat) (h : 64 * n ≤ M.length) : St.fold s (M ++ X) n = St.fold s M n := by
 induction n with
 | zero => rfl
 | succ n ih =>
  rw [St.fold, St.fold, ih (by omega)]
  refine block_congr _ _ (fun j hj => ?_) _
  rw [List.getD_eq_getElem?_getD, List.getD_eq_getElem?_getD, List.getElem?_append_left (by omega)]
theorem set_block {w : World} {g : Nat} {cs : Array Value} {t : TypeId} (hg : w.heap[g]? = some (.cells cs t (0, 0))) (o : Nat) (u : Value) : (w.setCell ⟨g, o, none⟩ u).heap[g]? = some (.cells (cs.setIfInBounds o u) t (0, 0)) := by
 simp [World.setCell, Array.getElem?_modify, hg]
theorem grown_setCell (w : World) (g o : Nat) (u : Value) : w.grownBy (w.setCell ⟨g, o, none⟩ u) (some g) := ⟨rfl, rfl, rfl, by simp [World.setCell], fun k _ hk => heap_setCell_other w _ k u (fun e => hk (by rw [e]))⟩
theorem own_ne {w : World} {g n : Nat} {e : TypeId} {v : Value} {xs : List Value} (h : w.ownsRow (g + 1) e 1 v n xs) : v.ownBlock ≠ some g := fun e => by have := h.lt g e; omega
theorem own_kept {w w' : World} {g n : Nat} {e : TypeId} {v : Value} {xs : List Value} (h : w.ownsRow (g + 1) e 1 v n xs) (hg : w.grownBy w' (some g)) : w'.ownsRow (g + 1) e 1 v n xs := h.kept hg (.inr (own_ne h))
theorem below_setCell {B g o : Nat} {w w' : World} (h : Below B w w') (u : Value) (hg : B ≤ g) : Below B w (w'.setCell ⟨g, o, none⟩ u) := h.setCell (p := ⟨g, o, none⟩) hg u
theorem grown_frozen {w w' : World} {g : Nat} {row : Option Nat} {cs : Array Value} {t : TypeId} (hg : w.grownBy w' row) (h : w.heap[g]? = some (.cells cs t (0, 0))) (hne : some g ≠ row) : w'.heap[g]? = some (.cells cs t (0, 0)) := (hg.block g (Array.getElem?_eq_some_iff.1 h).1 hne).trans h
theorem store_state_run {P : Program} {w : World} {a : Act} {op : Oper} {ty : TypeId} {p v : Operand} (ho : op.op = .store ty p v) (g : Nat) (hp : a.eval p = .pointer (some ⟨g, 0, none⟩)) (s s' : St) (x : Value) (n : Nat) (hv : a.eval v = .agg s'.row) (t : TypeId) (hg : w.heap[g]? = some (.cells (HCc s x n) t (0, 0))) (hi : (P.info? ty).map (·.size) = some 8) :
  (execOp a.eval op).run P w = .ok .skip (w.setRow g (HCc s' x n)) := by
 have h : (storeVar ty ⟨g, 0, none⟩ (.agg s'.row)).run P w = .ok () (w.setRow g (HCc s' x n)) := by
  cases hq : P.info? ty with
  | none => simp [hq] at hi
  | some i =>
   have hz : i.size = 8 := by simpa [hq] using hi
   have hst := run_storeCells_at (P := P) g 0 t s'.row.toList 0 (HCc s x n) w hg (by simp [St.row, HCc]) (row_one s')
   have he : ((HCc s x n).toList.take (0 + 0) ++ s'.row.toList ++ (HCc s x n).toList.drop (0 + 0 + s'.row.toList.length)).toArray = HCc s' x n := rfl
   rw [he] at hst
   have hc : (Value.agg s'.row).cells = s'.row := rfl
   have hsz : (Value.agg s'.row).cells.size = 8 := rfl
   have hl : (Value.agg s'.row).cells.toList = s'.row.toList := rfl
   simp [storeVar, sizeOf, typeInfo, hq, hz, hsz, hl, hst, Sem.run_bind]
 unfold execOp
 simp only [ho, hp, hv, Instr.storeAt, Instr.sureAddr, Sem.run_bind, Sem.run_pure, Result.andThen_ok, h]
set_option maxRecDepth 100000 in
set_option maxHeartbeats 60000000 in
theorem New (w : World) : Calls Tryd.prog 64 #[] w fun e w' => e = .returned (.pointer (some ⟨w.heap.size, 0, none⟩)) ∧ isHash w' w.heap.size [] ∧ Below w.heap.size w w' := by
 go_enter Tryd.func64, Tryd.ntmps64
 go_wp2
 go_ret
 refine ⟨rfl, ⟨.slice none 0 0, ?_, World.ownsRow_nil _ _ _ _⟩, Below.alloc (Below.refl _ _) (Nat.le_refl _) _⟩
 have h := heap_alloc_new w (.cells (HCc H0 (.slice none 0 0) 0) 134)
 refine Eq.trans ?_ h
 have e : HCc H0 (.slice none 0 0) 0 = #[.int .u32 1779033703, .int .u32 3144134277, .int .u32 1013904242, .int .u32 2773480762, .int .u32 1359893119, .int .u32 2600822924, .int .u32 528734635, .int .u32 1541459225, .slice none 0 0, .int .u64 0] := by
  unfold HCc H0
  simp only [U_def]
  rfl
 rw [e]
end Go.Proofs.YtdidopoalmkhlaaDoor.Sha
end
section
namespace Go.Proofs.YtdidopoalmkhlaaDoor.Sha
open Go Go.RowKit Go.Proofs.YtdidopoalmkhlaaDoorW.PrintWords Go.Proofs.YtdidopoalmkhlaaDoorW.PrintLast Go.Proofs.YtdidopoalmkhlaaDoorW.PrintMore
set_option linter.unusedVariables false
set_option linter.unusedSimpArgs false
attribute [local go_sem high] U_cells Y_cells
attribute [local go_sem] U_match Y_match
def table (w : World) : Prop := ∃ cs t fr, w.heap[0]? = some (.cells cs t fr) ∧ ∀ i, i < 64 → cs[i]? = some (U (Ks.getD i 0))
theorem table_below {B : Nat} {w w' : World} (h : table w) (hb : Below B w w') (h0 : 0 < B) : table w' := by
 obtain ⟨cs, t, fr, h1, h2⟩ := h
 exact ⟨cs, t, fr, (hb.block 0 h0).trans h1, h2⟩
theorem block_o (s : St) (b : Nat → BitVec 8) (g o c : Nat) (w : World) (hb : ∀ j, j < 64 → w.cell? ⟨g, o + j, none⟩ = some (Y (b j))) (hg : table w) : Calls Tryd.prog 85 #[.agg s.row, .slice (some ⟨g, o, none⟩) 64 c] w fun e w' => ∃ t, s.block b = t ∧ e = .returned (.agg t.row) ∧ Below w.heap.size w w' :=
 (block s b g o c w hb hg).mono fun e w' h => ⟨_, rfl, h⟩
theorem und_elem : Tryd.prog.underlying 101 = some (.slice (Tryd.prog.elem 101)) := by kernel_rfl
theorem elem8 : Tryd.prog.elem 101 = 5 := by kernel_rfl
theorem size8 (w : World) : (sizeOf 5).run Tryd.prog w = .ok 1 w := by
 obtain ⟨i0, hi, _, hz1, _⟩ := info_u8
 simp [sizeOf, typeInfo, hi, hz1]
theorem slice_to64 (g o L cap : Nat) (w : World) (h : 64 ≤ cap) : (Instr.slice 101 (.slice (some ⟨g, o, none⟩) L cap) none (some (.int .i64 64)) none).run Tryd.prog w = .ok (.slice (some ⟨g, o, none⟩) 64 cap) w := by
 rw [run_slice_h (P := Tryd.prog) w 101 (some ⟨g, o, none⟩) L cap und_elem .i64 64 (by omega) (by omega), elem8, size8]
 simp only [Result.andThen_ok, sliced]
 simp [Addr.add]
theorem slice_of64 (g o L cap : Nat) (w : World) (h : 64 ≤ L) (hc : L ≤ cap) : ∃ o2, (∀ w : World, (Instr.slice 101 (.slice (some ⟨g, o, none⟩) L cap) (some (.int .i64 64)) none none).run Tryd.prog w = .ok (.slice (some ⟨g, o2, none⟩) (L - 64) (cap - 64)) w) ∧ (L - 64 ≠ 0 → o2 = o + 64) := by
 by_cases hcap : cap = 64
 ·
  refine ⟨o, fun w => ?_, fun h => by omega⟩
  rw [run_slice_l (P := Tryd.prog) w 101 (some ⟨g, o, none⟩) L cap und_elem .i64 64 (by omega) (by omega), elem8, size8]
  simp only [Result.andThen_ok, sliced]
  simp [hcap]
 ·
  refine ⟨o + 64, fun w => ?_, fun _ => rfl⟩
  rw [run_slice_l (P := Tryd.prog) w 101 (some ⟨g, o, none⟩) L cap und_elem .i64 64 (by omega) (by omega), elem8, size8]
  simp only [Result.andThen_ok, sliced]
  rw [if_neg (by simpa using hcap)]
  simp [Addr.add]
theorem Stop {p : Prop} (h : Hid p) : p := h.out
theorem strCells_eq (s : ByteArray) : Lib.strCells s = (bytesB s).map Y := by
 rw [← bytesY_eq]
 unfold Lib.strCells bytesY
 exact List.map_congr_left fun b _ => Y_val b
set_option maxRecDepth 100000 in
set_option maxHeartbeats 60000000 in
theorem Write (w : World) (g : Nat) (M : List (BitVec 8)) (s : ByteArray) (hM : M.length + s.size ≤ 2199023255552) (hh : isHash w g M) (hT : table w) (h0 : 0 < g) : Calls Tryd.prog 65 #[.pointer (some ⟨g, 0, none⟩), .string s] w fun e w' => e = .returned (.tuple #[]) ∧ isHash w' g (M ++ bytesB s) ∧ Below g w w' := by
 obtain ⟨v, hv, ho⟩ := hh
 obtain ⟨S, hS⟩ : ∃ S, St.fold H0 M (M.length / 64) = S := ⟨_, rfl⟩
 obtain ⟨n, hn⟩ : ∃ n, M.length = n := ⟨_, rfl⟩
 obtain ⟨d, hd⟩ : ∃ d, n / 64 = d := ⟨_, rfl⟩
 obtain ⟨m, hm⟩ : ∃ m, n % 64 = m := ⟨_, rfl⟩
 rw [hS, hn] at hv
 rw [hn, hd, hm] at ho
 have HG := Lib.hid hv
 have HO := Lib.hid ho
 have HTB := Lib.hid hT
 have HSS : Hid (St.fold H0 M d = S ∧ M.length = n ∧ n / 64 = d ∧ n % 64 = m) := Lib.hid ⟨by rw [← hS, hn, hd], hn, hd, hm⟩
 have c8 : w.cell? ⟨g, 8, none⟩ = some v := cell_of_row _ _ _ _ _ _ hv
 have c9 : w.cell? ⟨g, 9, none⟩ = some (.int .u64 (n : Int)) := cell_of_row _ _ _ _ _ _ hv
 have hns : n + s.size ≤ 2199023255552 := by omega
 have hglt : g < w.heap.size := (Array.getElem?_eq_some_iff.1 hv).1
 clear hv ho hT hS hn hd hm hM
 obtain ⟨i0, hi0, hz0, hz1, hz2⟩ := info_u8
 have HI := Lib.hid hi0
 clear hi0
 go_enter Tryd.func65, Tryd.ntmps65
 have f9 : w.frozen? ⟨g, 9, none⟩ = false := frozen_of_row _ _ _ _ _ HG.out
 have hw : IntKind.u64.wrap ((n : Int) + s.size) = (n : Int) + s.size := by rw [IntKind.wrap_u64]; omega
 have c8' : (w.setCell ⟨g, 9, none⟩ (.int .u64 ((n : Int) + s.size))).cell? ⟨g, 8, none⟩ = some v := cell_of_row _ _ _ _ _ _ (set_block HG.out 9 _)
 have hml : m < 64 := by have := HSS.out; omega
 go_wp2_with (at_builtin; refine Stop ?_)
 refine Lib.hid ?_
 refine Lib.wpList_append_own_string _ rfl _ _ 101 9 rfl (g + 1) 5 i0 und_bytes.1 und_bytes.2.2 HI.out hz0 hz1 hz2 v m _ rfl (own_kept HO.out (grown_setCell _ _ 9 _)) s rfl (by unfold maxLen; omega) (by omega) (by simp; omega) ?_
 intro v2 w2 ho2 hg2 _
 have HO2 := Lib.hid ho2
 have hne : some g ≠ v.ownBlock := (fun e => own_ne HO.out e.symm)
 have HG2 := Lib.hid (grown_frozen hg2 (set_block HG.out 9 (.int .u64 ((n : Int) + s.size))) hne)
 have HB2 : Hid (Below g w w2) := Lib.hid ((below_setCell (Below.refl g w) _ (Nat.le_refl g)).grown hg2 (by simp; omega) (fun k hk => by have := HO.out.lt k hk; omega))
 have c82 : w2.cell? ⟨g, 8, none⟩ = some v := (cell_of_row _ _ _ _ _ _ HG2.out)
 have f82 : w2.frozen? ⟨g, 8, none⟩ = false := frozen_of_row _ _ _ _ _ HG2.out
 obtain ⟨a2, l2, k2, hv2⟩ := own_slice ho2
 clear ho2 hg2
 subst hv2
 go_wp2
 obtain ⟨RR, hRR⟩ : ∃ RR, M.drop (64 * d) ++ bytesB s = RR := ⟨_, rfl⟩
 obtain ⟨L, hL⟩ : ∃ L, RR.length = L := ⟨_, rfl⟩
 obtain ⟨J, hJ⟩ : ∃ J, L / 64 = J := ⟨_, rfl⟩
 have HL : Hid (RR.length = L ∧ L / 64 = J ∧ L = m + s.size ∧ M.drop (64 * d) ++ bytesB s = RR) := Lib.hid ⟨hL, hJ, by have h := HO2.out.1; rw [List.length_append, List.length_map, Lib.strCells_length] at h; rw [← hL, ← hRR, List.length_append, bytesB_length]; omega, hRR⟩
 have hO3 : (w2.setCell ⟨g, 8, none⟩ (.slice a2 l2 k2)).ownsRow (g + 1) 5 1 (.slice a2 l2 k2) (m + s.size) (RR.map Y) := by
  rw [← hRR, List.map_append, ← strCells_eq]
  exact own_kept HO2.out (grown_setCell _ _ 8 _)
 have HG3 : Hid ((w2.setCell ⟨g, 8, none⟩ (.slice a2 l2 k2)).heap[g]? = some (.cells (HCc S (.slice a2 l2 k2) (n + s.size)) 134 (0, 0))) := Lib.hid ((set_block HG2.out 8 (.slice a2 l2 k2)).trans (by congr 2))
 have HB3 : Hid (Below g w (w2.setCell ⟨g, 8, none⟩ (.slice a2 l2 k2))) := Lib.hid (below_setCell HB2.out _ (Nat.le_refl g))
 have HR3 := Lib.hid (ReadsG.of_own hO3)
 clear hO3 hRR hL hJ c8 c9 f9 c8' c82 f82 hne HG2 HB2 HO2
 go_loopg [] J (fun kq w' => ∃ (j : Nat) (v : Value), j + kq = J ∧ Hid (w'.heap[g]? = some (.cells (HCc (St.fold S RR j) v (n + s.size)) 134 (0, 0))) ∧ Hid (ReadsG w' g v (RR.drop (64 * j))) ∧ Hid (Below g w w'))
 case atStart => exact ⟨0, .slice a2 l2 k2, Nat.zero_add _, HG3, HR3, HB3⟩
 case round =>
  clear HG3 HB3 HR3
  obtain ⟨j, v, hj, HG3, HR3, HB3⟩ := hrel
  have hlen : (RR.drop (64 * j)).length = L - 64 * j := by rw [List.length_drop, HL.out.1]
  by_cases hjJ : j < J
  ·
   cases gk with
   | zero => exact absurd hj (by omega)
   | succ k1 =>
   have h64 : 64 ≤ L - 64 * j := by have := HL.out; omega
   rcases HR3.out with ⟨_, hnil⟩ | ⟨gr, o, c, hv, hc, hgr, hcell⟩
   ·
    rw [hnil] at hlen; simp at hlen; omega
   ·
    rw [hlen] at hv hc
    subst hv
    obtain ⟨t, ht⟩ : ∃ t, St.fold S RR j = t := ⟨_, rfl⟩
    rw [ht] at HG3
    have HTT := Lib.hid ht
    obtain ⟨l1, hl1⟩ : ∃ l1, L - 64 * j = l1 := ⟨_, rfl⟩
    rw [hl1] at h64 hc hlen
    obtain ⟨o2, hs2, ho2⟩ := slice_of64 gr o l1 c wr h64 hc
    have hs1 := fun w => slice_to64 gr o l1 c w (by omega)
    have HX := Lib.hid (And.intro ho2 (And.intro hl1 (And.intro hlen (And.intro hc hj))))
    have HCL := Lib.hid hcell
    have x0 : wr.cell? ⟨g, 0, none⟩ = some (U t.a) := cell_of_row _ _ _ _ _ _ HG3.out
    have x1 : wr.cell? ⟨g, 1, none⟩ = some (U t.b) := cell_of_row _ _ _ _ _ _ HG3.out
    have x2 : wr.cell? ⟨g, 2, none⟩ = some (U t.c) := cell_of_row _ _ _ _ _ _ HG3.out
    have x3 : wr.cell? ⟨g, 3, none⟩ = some (U t.d) := cell_of_row _ _ _ _ _ _ HG3.out
    have x4 : wr.cell? ⟨g, 4, none⟩ = some (U t.e) := cell_of_row _ _ _ _ _ _ HG3.out
    have x5 : wr.cell? ⟨g, 5, none⟩ = some (U t.f) := cell_of_row _ _ _ _ _ _ HG3.out
    have x6 : wr.cell? ⟨g, 6, none⟩ = some (U t.g) := cell_of_row _ _ _ _ _ _ HG3.out
    have x7 : wr.cell? ⟨g, 7, none⟩ = some (U t.h) := cell_of_row _ _ _ _ _ _ HG3.out
    have x8 : wr.cell? ⟨g, 8, none⟩ = some (.slice (some ⟨gr, o, none⟩) l1 c) := cell_of_row _ _ _ _ _ _ (by rw [HG3.out, hl1])
    have hb64 : ∀ i, i < 64 → wr.drew.cell? ⟨gr, o + i, none⟩ = some (Y ((RR.drop (64 * j)).getD i 0#8)) := fun i hi => Reads.cellD HCL.out i (by rw [hlen]; omega)
    have HB64 := Lib.hid hb64
    have e64 : decide (64 ≤ l1) = true := decide_eq_true h64
    have HTW : Hid (table wr.drew) := Lib.hid (table_below HTB.out HB3.out.drew h0)
    clear ht hl1 ho2 hlen hc hcell hj hb64 x0 x1 x2 x3 x4 x5 x6 x7
    go_wp2
    have mixed : Tryd.prog.follows Departure.mixedOrders = true := by kernel_rfl
    have HG3' : wr.drew.heap[g]? = some (.cells (HCc t (.slice (some ⟨gr, o, none⟩) l1 c) (n + s.size)) 134 (0, 0)) := by rw [← HX.out.2.1]; exact HG3.out
    refine start_ (n := 14) (S := fun w' : World => w'.heap[g]? = some (.cells (HCc t (.slice (some ⟨gr, o, none⟩) l1 c) (n + s.size)) 134 (0, 0)) ∧ Below wr.drew.heap.size wr.drew w') (ds := [13]) #[false, false, false, false, false, false, false, false, false, false, false, false, false, false] mixed rfl rfl ⟨HG3', Below.refl _ _⟩ ?_
    intro hHeld
    refine pure_ (i := 0) (N := some 31) (v := ?_) (a' := ?_) #[true, false, false, false, false, false, false, false, false, false, false, false, false, false] rfl rfl (by kernel_rfl) (fun _ _ _ h => h) (Or.inl ⟨by rfl, ?_⟩) ?_ ?_
    rotate_left
    ·
     intro w'
     go_simp
     with_reducible rfl
    rotate_left
    ·
     simp only [Act.put, List.setIfInBounds_toArray, List.set_cons_zero, List.set_cons_succ, i64_w, i32_w]
     rfl
    refine pure_ (i := 1) (N := some 32) (v := ?_) (a' := ?_) #[true, true, false, false, false, false, false, false, false, false, false, false, false, false] rfl rfl (by kernel_rfl) (fun _ _ _ h => h) (Or.inl ⟨by rfl, ?_⟩) ?_ ?_
    rotate_left
    ·
     intro w'
     go_simp
     with_reducible rfl
    rotate_left
    ·
     simp only [Act.put, List.setIfInBounds_toArray, List.set_cons_zero, List.set_cons_succ, i64_w, i32_w]
     rfl
    refine pure_ (i := 2) (N := some 33) (v := ?_) (a' := ?_) #[true, true, true, false, false, false, false, false, false, false, false, false, false, false] rfl rfl (by kernel_rfl) (fun _ _ _ h => h) (Or.inl ⟨by rfl, ?_⟩) ?_ ?_
    rotate_left
    ·
     intro w'
     go_simp
     with_reducible rfl
    rotate_left
    ·
     simp only [Act.put, List.setIfInBounds_toArray, List.set_cons_zero, List.set_cons_succ, i64_w, i32_w]
     rfl
    refine pure_ (i := 3) (N := some 34) (v := ?_) (a' := ?_) #[true, true, true, true, false, false, false, false, false, false, false, false, false, false] rfl rfl (by kernel_rfl) (fun _ _ _ h => h) (Or.inl ⟨by rfl, ?_⟩) ?_ ?_
    rotate_left
    ·
     intro w'
     go_simp
     with_reducible rfl
    rotate_left
    ·
     simp only [Act.put, List.setIfInBounds_toArray, List.set_cons_zero, List.set_cons_succ, i64_w, i32_w]
     rfl
    refine take_ (i := 4) (N := some 35) (v := ?_) (a' := ?_) #[true, true, true, true, true, false, false, false, false, false, false, false, false, false] rfl rfl (by kernel_rfl) (fun _ _ _ h => h) (Or.inl ⟨by rfl, ?_⟩) hHeld ?_ ?_
    rotate_left
    ·
     rintro w' ⟨s1, _⟩
     have y0 : w'.cell? ⟨g, 0, none⟩ = some (U t.a) := cell_of_row _ _ _ _ _ _ s1
     have y1 : w'.cell? ⟨g, 1, none⟩ = some (U t.b) := cell_of_row _ _ _ _ _ _ s1
     have y2 : w'.cell? ⟨g, 2, none⟩ = some (U t.c) := cell_of_row _ _ _ _ _ _ s1
     have y3 : w'.cell? ⟨g, 3, none⟩ = some (U t.d) := cell_of_row _ _ _ _ _ _ s1
     have y4 : w'.cell? ⟨g, 4, none⟩ = some (U t.e) := cell_of_row _ _ _ _ _ _ s1
     have y5 : w'.cell? ⟨g, 5, none⟩ = some (U t.f) := cell_of_row _ _ _ _ _ _ s1
     have y6 : w'.cell? ⟨g, 6, none⟩ = some (U t.g) := cell_of_row _ _ _ _ _ _ s1
     have y7 : w'.cell? ⟨g, 7, none⟩ = some (U t.h) := cell_of_row _ _ _ _ _ _ s1
     go_simp
     with_reducible rfl
    rotate_left
    ·
     simp only [Act.put, List.setIfInBounds_toArray, List.set_cons_zero, List.set_cons_succ, i64_w, i32_w]
     rfl
    refine pure_ (i := 5) (N := some 36) (v := ?_) (a' := ?_) #[true, true, true, true, true, true, false, false, false, false, false, false, false, false] rfl rfl (by kernel_rfl) (fun _ _ _ h => h) (Or.inl ⟨by rfl, ?_⟩) ?_ ?_
    rotate_left
    ·
     intro w'
     go_simp
     with_reducible rfl
    rotate_left
    ·
     simp only [Act.put, List.setIfInBounds_toArray, List.set_cons_zero, List.set_cons_succ, i64_w, i32_w]
     rfl
    refine pure_ (i := 6) (N := some 37) (v := ?_) (a' := ?_) #[true, true, true, true, true, true, true, false, false, false, false, false, false, false] rfl rfl (by kernel_rfl) (fun _ _ _ h => h) (Or.inl ⟨by rfl, ?_⟩) ?_ ?_
    rotate_left
    ·
     intro w'
     go_simp
     with_reducible rfl
    rotate_left
    ·
     simp only [Act.put, List.setIfInBounds_toArray, List.set_cons_zero, List.set_cons_succ, i64_w, i32_w]
     rfl
    refine pure_ (i := 7) (N := some 38) (v := ?_) (a' := ?_) #[true, true, true, true, true, true, true, true, false, false, false, false, false, false] rfl rfl (by kernel_rfl) (fun _ _ _ h => h) (Or.inl ⟨by rfl, ?_⟩) ?_ ?_
    rotate_left
    ·
     intro w'
     go_simp
     with_reducible rfl
    rotate_left
    ·
     simp only [Act.put, List.setIfInBounds_toArray, List.set_cons_zero, List.set_cons_succ, i64_w, i32_w]
     rfl
    refine take_ (i := 8) (N := some 39) (v := ?_) (a' := ?_) #[true, true, true, true, true, true, true, true, true, false, false, false, false, false] rfl rfl (by kernel_rfl) (fun _ _ _ h => h) (Or.inl ⟨by rfl, ?_⟩) hHeld ?_ ?_
    rotate_left
    ·
     rintro w' ⟨s1, _⟩
     have y8 : w'.cell? ⟨g, 8, none⟩ = some (.slice (some ⟨gr, o, none⟩) l1 c) := cell_of_row _ _ _ _ _ _ s1
     go_simp
     with_reducible rfl
    rotate_left
    ·
     simp only [Act.put, List.setIfInBounds_toArray, List.set_cons_zero, List.set_cons_succ, i64_w, i32_w]
     rfl
    refine pure_ (i := 9) (N := some 40) (v := ?_) (a' := ?_) #[true, true, true, true, true, true, true, true, true, true, false, false, false, false] rfl rfl (by kernel_rfl) (fun _ _ _ h => h) (Or.inl ⟨by rfl, ?_⟩) ?_ ?_
    rotate_left
    ·
     intro w'
     go_simp
     with_reducible rfl
    rotate_left
    ·
     simp only [Act.put, List.setIfInBounds_toArray, List.set_cons_zero, List.set_cons_succ, i64_w, i32_w]
     rfl
    refine one_ (i := 10) (N := some 41) #[true, true, true, true, true, true, true, true, true, true, true, false, false, false] rfl rfl (by kernel_rfl) (by decide) (fun K hK => ?_)
    refine goes_ Tryd.func85 (by kernel_rfl) rfl #[.agg t.row, .slice (some ⟨gr, o, none⟩) 64 c] (by rfl) rfl rfl (by (try simp only [List.map_toArray, List.map_cons, List.map_nil]); first | done | rfl) ?_
    refine (block_o t (fun i => (RR.drop (64 * j)).getD i 0#8) gr o c wr.drew HB64.out HTW.out).mono ?_
    rintro e w3 ⟨t1, ht1, rfl, hb3⟩
    have HB4 := Lib.hid hb3
    have HT1 := Lib.hid ht1
    refine ⟨_, rfl, ?_⟩
    have HG4 : w3.heap[g]? = some (.cells (HCc t (.slice (some ⟨gr, o, none⟩) l1 c) (n + s.size)) 134 (0, 0)) := (hb3.block g (Array.getElem?_eq_some_iff.1 HG3.out).1).trans HG3'
    refine hK.out _ _ ⟨HG4, hb3⟩ (fun hHeld => ?_)
    clear hK K hb3 ht1
    refine norm_ (a' := ?_) ?_ ?_
    rotate_left
    ·
     show Act.put _ (some 41) _ = _
     simp only [Act.put, List.setIfInBounds_toArray, List.set_cons_zero, List.set_cons_succ, i64_w, i32_w]
     rfl
    refine pure_ (i := 11) (N := some 42) (v := ?_) (a' := ?_) #[true, true, true, true, true, true, true, true, true, true, true, true, false, false] rfl rfl (by kernel_rfl) (fun _ _ _ h => h) (Or.inl ⟨by rfl, ?_⟩) ?_ ?_
    rotate_left
    ·
     intro w'
     go_simp
     with_reducible rfl
    rotate_left
    ·
     simp only [Act.put, List.setIfInBounds_toArray, List.set_cons_zero, List.set_cons_succ, i64_w, i32_w]
     rfl
    refine pure_ (i := 12) (N := some 43) (v := ?_) (a' := ?_) #[true, true, true, true, true, true, true, true, true, true, true, true, true, false] rfl rfl (by kernel_rfl) (fun _ _ _ h => h) (Or.inl ⟨by rfl, ?_⟩) ?_ ?_
    rotate_left
    ·
     intro w'
     go_simp
     with_reducible rfl
    rotate_left
    ·
     simp only [Act.put, List.setIfInBounds_toArray, List.set_cons_zero, List.set_cons_succ, i64_w, i32_w]
     rfl
    refine last_ (i := 13) (N := none) #[true, true, true, true, true, true, true, true, true, true, true, true, true, true] rfl rfl (by kernel_rfl) (by decide) (fun K hK => ?_)
    rw [if_pos (by rfl)]
    unfold Oper.wp
    rw [store_state_run (w := w3) (by rfl) g (by rfl) t t1 (.slice (some ⟨gr, o, none⟩) l1 c) (n + s.size) (by rfl) 134 HG4 info8]
    show K _ _
    refine hK.out _ _ ?_
    clear hK K
    refine done_ (by kernel_rfl) ?_
    have hg5 : (w3.setRow g (HCc t1 (.slice (some ⟨gr, o, none⟩) l1 c) (n + s.size))).heap[g]? = some (.cells (HCc t1 (.slice (some ⟨gr, o, none⟩) l1 c) (n + s.size)) 134 (0, 0)) := setRow_heap _ _ _ _ _ _ HG4
    have hb5 : Below g w (w3.setRow g (HCc t1 (.slice (some ⟨gr, o, none⟩) l1 c) (n + s.size))) := setRow_below _ _ _ _ _ (HB3.out.drew.trans (HB4.out.mono (Nat.le_of_lt (Array.getElem?_eq_some_iff.1 HG3').1))) (Nat.le_refl _)
    have hc5 : ∀ a : Addr, g < a.block → a.block < wr.heap.size → (w3.setRow g (HCc t1 (.slice (some ⟨gr, o, none⟩) l1 c) (n + s.size))).cell? a = wr.cell? a := fun a h1 h2 => (World.cell?_of_block (setRow_other _ _ _ _ (by omega))).trans (World.cell?_of_block (HB4.out.block _ h2))
    generalize (w3.setRow g (HCc t1 (.slice (some ⟨gr, o, none⟩) l1 c) (n + s.size))) = w4 at hg5 hb5 hc5 ⊢
    have HG5 := Lib.hid hg5
    have HB5 := Lib.hid hb5
    have HC5 := Lib.hid hc5
    have y8 : w4.cell? ⟨g, 8, none⟩ = some (.slice (some ⟨gr, o, none⟩) l1 c) := cell_of_row _ _ _ _ _ _ hg5
    have g8 : w4.frozen? ⟨g, 8, none⟩ = false := frozen_of_row _ _ _ _ _ hg5
    clear hg5 hb5 hc5 HG4 x8 HG3'
    simp only [Exit.then, Act.put, List.setIfInBounds_toArray, List.set_cons_zero, List.set_cons_succ]
    go_wp2
    go_roundg k1
    case measure => omega
    case rel =>
     obtain ⟨q1, q2, q3, q4, q5⟩ := HX.out
     refine ⟨j + 1, .slice (some ⟨gr, o2, none⟩) (l1 - 64) (c - 64), by omega, Lib.hid ?_, Lib.hid ?_, Lib.hid (below_setCell HB5.out _ (Nat.le_refl _))⟩
     ·
      have e : St.fold S RR (j + 1) = t1 := by
       rw [St.fold, HTT.out, ← HT1.out]
       congr 1
       funext i
       rw [List.getD_eq_getElem?_getD, List.getD_eq_getElem?_getD, List.getElem?_drop]
      rw [e]
      exact (set_block HG5.out 8 _).trans (by congr 2)
     ·
      have e1 : (RR.drop (64 * (j + 1))).length = l1 - 64 := by rw [List.length_drop, HL.out.1]; omega
      refine .inr ⟨gr, o2, c - 64, by rw [e1], by rw [e1]; omega, hgr, fun i u hu => ?_⟩
      have hi : i < l1 - 64 := by
       have := (List.getElem?_eq_some_iff.1 hu).1
       rw [List.length_map, e1] at this
       exact this
      have eo : o2 = o + 64 := q1 (by omega)
      subst eo
      have h1 := HCL.out (64 + i) u (by
       rw [← hu, List.getElem?_map, List.getElem?_map, List.getElem?_drop, List.getElem?_drop]
       congr 2
       omega)
      have h2 : wr.cell? ⟨gr, o + 64 + i, none⟩ = some u := by rw [Nat.add_assoc]; exact h1
      refine Eq.trans ?_ ((HC5.out ⟨gr, o + 64 + i, none⟩ hgr (World.block_lt_of_cell? wr _ h2)).trans h2)
      exact World.cell?_of_block (heap_setCell_other _ _ _ _ (by show gr ≠ g; omega))
  ·
   have hjj : j = J := by omega
   have hl1 : L - 64 * j < 64 := by have := HL.out; omega
   have hv : ∃ a c, v = .slice a (L - 64 * j) c := by
    rcases HR3.out with ⟨h1, h2⟩ | ⟨gr, o, c, h1, _⟩
    ·
     rw [h2] at hlen
     simp at hlen
     exact ⟨none, 0, by rw [h1, ← hlen]⟩
    ·
     rw [hlen] at h1
     exact ⟨_, _, h1⟩
   obtain ⟨a1, c1, hv⟩ := hv
   obtain ⟨l1, hll⟩ : ∃ l1, L - 64 * j = l1 := ⟨_, rfl⟩
   rw [hll] at hl1 hv hlen
   subst hv
   have x8 : wr.cell? ⟨g, 8, none⟩ = some (.slice a1 l1 c1) := cell_of_row _ _ _ _ _ _ HG3.out
   have g8 : wr.frozen? ⟨g, 8, none⟩ = false := frozen_of_row _ _ _ _ _ HG3.out
   have e64 : decide (64 ≤ l1) = false := decide_eq_false (by omega)
   have HX := Lib.hid (And.intro hll (And.intro hlen (And.intro hjj hj)))
   clear hll hlen hjj hj hjJ
   go_wp2_with (at_builtin; refine Stop ?_)
   refine Lib.hid ?_
   refine wpList_append_rest rfl _ _ rfl (g + 1) (.slice a1 l1 c1) (RR.drop (64 * j)) rfl rfl HR3.out.reads (by have := HX.out; omega) (by have := HB3.out.size; omega) ?_
   intro v5 w5 ho5 hg5
   obtain ⟨a5, l5, k5, hv5⟩ := own_slice ho5
   subst hv5
   have HG5 : Hid (w5.heap[g]? = some (.cells (HCc (St.fold S RR j) (.slice a1 l1 c1) (n + s.size)) 134 (0, 0))) := Lib.hid (grown_frozen hg5 HG3.out (by simp))
   have HO5 := Lib.hid ho5
   have HB5 : Hid (Below g w w5) := Lib.hid (HB3.out.grown hg5 (by have := HB3.out.size; omega) (by simp))
   have y8 : w5.cell? ⟨g, 8, none⟩ = some (.slice a1 l1 c1) := cell_of_row _ _ _ _ _ _ HG5.out
   have h8 : w5.frozen? ⟨g, 8, none⟩ = false := frozen_of_row _ _ _ _ _ HG5.out
   clear ho5 hg5 x8 g8
   go_wp2
   go_end0
   obtain ⟨q1, q2, q3, q4⟩ := HSS.out
   obtain ⟨p1, p2, p3, p4⟩ := HL.out
   obtain ⟨r1, r2, r3, r4⟩ := HX.out
   have hlen2 : (M ++ bytesB s).length = n + s.size := by rw [List.length_append, q2, bytesB_length]
   have hdiv : (n + s.size) / 64 = d + j := by omega
   have hdr : (M ++ bytesB s).drop (64 * d) = RR := by rw [List.drop_append_of_le_length (by omega), p4]
   refine ⟨rfl, ⟨.slice a5 l5 k5, ?_, ?_⟩, below_setCell HB5.out _ (Nat.le_refl _)⟩
   ·
    rw [hlen2, hdiv, fold_add, fold_append _ _ _ _ (by omega), q1, hdr]
    exact set_block HG5.out 8 _
   ·
    have h1 := own_kept HO5.out (grown_setCell w5 g 8 (.slice a5 l5 k5))
    rw [hlen2, hdiv]
    have e1 : (M ++ bytesB s).drop (64 * (d + j)) = RR.drop (64 * j) := by
     rw [← hdr, List.drop_drop]
     congr 1
     omega
    have e2 : (n + s.size) % 64 = (RR.drop (64 * j)).length := by omega
    rw [e1, e2]
    exact h1
end Go.Proofs.YtdidopoalmkhlaaDoor.Sha
end
section
namespace Go.Proofs.YtdidopoalmkhlaaDoor.Sha
open Go Go.RowKit Go.Proofs.YtdidopoalmkhlaaDoorW.PrintWords Go.Proofs.YtdidopoalmkhlaaDoorW.PrintLast Go.Proofs.YtdidopoalmkhlaaDoorW.PrintMore
set_option linter.unusedVariables false
set_option linter.unusedSimpArgs false
attribute [local go_sem] u_and u_or u_xor u_add u_sub u_mul u_shl_24 u_shl_16 u_shl_8 u_shr_3 u_shr_10 u_shr_24 u_shr_16 u_shr_8 u_shl' u_shr' u_not
attribute [local go_sem high] U_cells Y_cells
attribute [local go_sem] U_match Y_match
def ReadsN (w : World) (g : Nat) (v : Value) (l : List (BitVec 8)) : Prop :=
 ∃ gr o c, v = .slice (some ⟨gr, o, none⟩) l.length c ∧ l.length ≤ c ∧ gr ≠ g ∧ ∀ j u, (l.map Y)[j]? = some u → w.cell? ⟨gr, o + j, none⟩ = some u
theorem own_slice' {w : World} {base n : Nat} {e : TypeId} {v : Value} {xs : List Value} (h : w.ownsRow base e 1 v n xs) : ∃ a c, v = .slice a n c := by
 rcases h.2 with ⟨h1, h0⟩ | ⟨gr, cap, cur, hv, _⟩
 ·
  exact ⟨none, 0, by rw [h1, h0]⟩
 ·
  exact ⟨_, _, hv⟩
theorem wpList_append_new {w : World} {ops : Array Oper} {rest : List Oper} {o : Oper} {a : Act} {Q : Exit → Act → World → Prop} (hgd : o.guard = none) (s x : Operand)
  (ho : o.op = .call { callee := .builtin .append, args := #[s, x], argTypes := #[101, 101] }) (B : Nat) (v : Value) (n : Nat) (xs : List (BitVec 8)) (hs : a.eval s = v) (hown : w.ownsRow B 5 1 v n (xs.map Y))
  (gb m c : Nat) (news : List (BitVec 8)) (hx : a.eval x = .slice (some ⟨gb, 0, none⟩) m c) (hl : news.length = m) (hb : w.heap[gb]? = some (.cells (news.map Y).toArray 5 (0, 0))) (hlen : n + m ≤ 140737488355328) (hbase : B ≤ w.heap.size)
  (h : ∀ v' w', w'.ownsRow B 5 1 v' (n + m) ((xs ++ news).map Y) → w.grownBy w' v.ownBlock → wpList Tryd.prog ops Q rest (a.put o.dst v') w') : wpList Tryd.prog ops Q (o :: rest) a w := by
 obtain ⟨i0, hi, hz0, hz1, hz2⟩ := info_u8
 refine wpList_append_own w hgd s x 101 ho B 5 i0 _ 1 1 und_bytes.1 hi hz0 hz1 hz2 rfl (by decide) v n (xs.map Y) hs hown ⟨gb, 0, none⟩ m c (news.map Y) hx (by simpa using hl) (World.news_of_block (by simpa using hb)) (Y_all _) (by unfold maxLen; omega) (by omega) hbase ?_
 intro v' w' h1 h2 _
 exact h v' w' (by rw [List.map_append]; exact h1) h2
theorem blk_one (w : World) (x : BitVec 8) (u : Value) (h : u = Y x) : (w.alloc (.cells #[u] 5)).heap[w.heap.size]? = some (.cells ([x].map Y).toArray 5 (0, 0)) := by
 subst h
 exact heap_alloc_new w _
theorem blk_four (w : World) (x : BitVec 32) : (w.alloc (.cells #[Y ((x >>> 24).truncate 8), Y ((x >>> 16).truncate 8), Y ((x >>> 8).truncate 8), Y (x.truncate 8)] 5)).heap[w.heap.size]? = some (.cells ((fourB x).map Y).toArray 5 (0, 0)) := heap_alloc_new w _
set_option maxRecDepth 100000 in
theorem und8' : Tryd.prog.underlying 132 = some (.array 8 131) := by kernel_rfl
theorem info_u32 : ∃ i0, Tryd.prog.info? 131 = some i0 ∧ i0.size = 1 := by
 have h := info32
 cases hq : Tryd.prog.info? 131 with
 | none => rw [hq] at h; cases h
 | some i0 => rw [hq] at h; simp at h; exact ⟨i0, rfl, h.2.1⟩
theorem index_row (t : St) (i : Nat) (h : i < 8) (w : World) : (Instr.index 132 (.agg #[U t.a, U t.b, U t.c, U t.d, U t.e, U t.f, U t.g, U t.h]) (.int .i64 (i : Int))).run Tryd.prog w = .ok (U (t.get i)) w := by
 obtain ⟨i0, hi, hz⟩ := info_u32
 have h1 : (0 : Int) ≤ i ∧ (i : Int) < (8 : Nat) := by omega
 simp [Instr.index, asIntOf, run_underlying und8', sizeOf, typeInfo, hi, hz]
 rw [if_pos h]
 have hr := row_get t i h
 unfold St.row at hr
 have hu : Tryd.prog.underlying 131 = some (.int .u32) := by kernel_rfl
 simp [part, isAgg, run_underlying hu, hr]
theorem Y128 : (.int .u8 128 : Value) = Y 128#8 := by rw [Y_def]; rfl
theorem Y0 : (.int .u8 0 : Value) = Y 0#8 := by rw [Y_def]; rfl
set_option maxRecDepth 100000 in
set_option maxHeartbeats 60000000 in
theorem HSum (w : World) (g : Nat) (M : List (BitVec 8)) (hM : M.length ≤ 2199023255552) (hh : isHash w g M) (hT : table w) : Calls Tryd.prog 66 #[.pointer (some ⟨g, 0, none⟩)] w fun e w' => e = .returned (.string (ofB (sha M))) ∧ Below w.heap.size w w' := by
 obtain ⟨v, hv, ho⟩ := hh
 obtain ⟨S, hS⟩ : ∃ S, St.fold H0 M (M.length / 64) = S := ⟨_, rfl⟩
 obtain ⟨n, hn⟩ : ∃ n, M.length = n := ⟨_, rfl⟩
 obtain ⟨m, hm⟩ : ∃ m, n % 64 = m := ⟨_, rfl⟩
 obtain ⟨R, hR⟩ : ∃ R, M.drop (64 * (n / 64)) = R := ⟨_, rfl⟩
 rw [hS, hn] at hv
 rw [hn, hm, hR] at ho
 have hRl := length_of_own ho
 have HG := Lib.hid hv
 have HTB := Lib.hid hT
 have HSS : Hid (St.fold H0 M (n / 64) = S ∧ M.length = n ∧ n % 64 = m ∧ M.drop (64 * (n / 64)) = R ∧ R.length = m ∧ n ≤ 2199023255552) := Lib.hid ⟨by rw [← hS, hn], hn, hm, hR, hRl, by omega⟩
 have hglt : g < w.heap.size := (Array.getElem?_eq_some_iff.1 hv).1
 have hml : m < 64 := by omega
 obtain ⟨a0, c0, hv0⟩ := own_slice' ho
 subst hv0
 have HO := Lib.hid ho
 have c8 : w.cell? ⟨g, 8, none⟩ = some (.slice a0 m c0) := cell_of_row _ _ _ _ _ _ hv
 clear hv ho hT hS hn hm hM hR hRl
 go_enter Tryd.func66, Tryd.ntmps66
 go_wp2_with (at_builtin; refine Stop ?_)
 refine Lib.hid ?_
 refine wpList_append_rest rfl _ _ rfl w.heap.size (.slice a0 m c0) R rfl rfl (Reads.of_own HO.out) (by have := HSS.out; omega) (Nat.le_refl _) ?_
 intro v1 w1 ho1 hg1
 have HB1 : Hid (Below w.heap.size w w1) := Lib.hid ((Below.refl _ _).grown hg1 (Nat.le_refl _) (by simp))
 have HO1 := Lib.hid ho1
 clear ho1 hg1 c8
 go_wp2_with (at_builtin; refine Stop ?_)
 refine Lib.hid ?_
 refine wpList_append_new rfl _ _ rfl w.heap.size v1 R.length R rfl (HO1.out.alloc _) w1.heap.size 1 1 [128#8] rfl rfl (blk_one w1 _ _ Y128) (by have := HSS.out; omega) (by have := HB1.out.size; simp; omega) ?_
 intro v2 w2 ho2 hg2
 have HB2 : Hid (Below w.heap.size w w2) := Lib.hid ((HB1.out.alloc HB1.out.size _).grown hg2 (by have := HB1.out.size; simp; omega) (fun k hk => (HO1.out.lt k hk).1))
 have HO2 := Lib.hid ho2
 clear ho2 hg2
 go_wp2
 obtain ⟨K0, hK0⟩ : ∃ K0, (120 - (m + 1) % 64) % 64 = K0 := ⟨_, rfl⟩
 go_loopg [3] K0 (fun kq v3 w' => ∃ k : Nat, k + kq = K0 ∧ Hid (w'.ownsRow w.heap.size 5 1 v3 (m + 1 + k) ((R ++ [128#8] ++ List.replicate k 0#8).map Y)) ∧ Hid (Below w.heap.size w w'))
 case atStart => exact ⟨0, Nat.zero_add _, by rw [List.replicate_zero, List.append_nil, ← HSS.out.2.2.2.2.1]; exact HO2, HB2⟩
 case round =>
  clear HO1 HB1 HO2 HB2
  obtain ⟨k, hk, HO2, HB2⟩ := hrel
  obtain ⟨a2, c2, hv2⟩ := own_slice' HO2.out
  subst hv2
  by_cases h56 : (m + 1 + k) % 64 = 56
  ·
   have h56b : K0 = k := by omega
   have hnb : n ≤ 2199023255552 := HSS.out.2.2.2.2.2
   have hk64 : k ≤ 64 := by omega
   have HK : Hid ((120 - (m + 1) % 64) % 64 = k) := Lib.hid (by omega)
   have C9 : Hid (w.cell? ⟨g, 9, none⟩ = some (.int .u64 (n : Int))) := Lib.hid (cell_of_row _ _ _ _ _ _ HG.out)
   clear hk hK0 h56b
   have d9 : wr.cell? ⟨g, 9, none⟩ = some (.int .u64 (n : Int)) := (HB2.out.cell hglt).trans C9.out
   go_wp2
   refine wp_loop_rounds 9 ?_
   rw [rounds_succ]
   go_wp2_with (at_builtin; refine Stop ?_)
   refine Lib.hid ?_
   refine wpList_append_new rfl _ _ rfl w.heap.size _ (m + 1 + k) _ rfl (HO2.out.alloc _) wr.heap.size 1 1 [BitVec.ofNat 8 (n * 8 / 72057594037927936)] rfl rfl (blk_one wr _ _ (Y_of (n * 8 / 72057594037927936) ((n : Int) * 8 / 72057594037927936) (by omega))) (by omega) (by have := HB2.out.size; simp; omega) ?_
   intro v10 w10 ho10 hg10
   have HB10 : Hid (Below w.heap.size w w10) := Lib.hid ((HB2.out.alloc HB2.out.size _).grown hg10 (by have := HB2.out.size; simp; omega) (fun k hk => (HO2.out.lt k hk).1))
   have HO10 := Lib.hid ho10
   have d9 : w10.cell? ⟨g, 9, none⟩ = some (.int .u64 (n : Int)) := (HB10.out.cell hglt).trans C9.out
   clear ho10 hg10
   go_wp2
   rw [rounds_succ]
   go_wp2_with (at_builtin; refine Stop ?_)
   refine Lib.hid ?_
   refine wpList_append_new rfl _ _ rfl w.heap.size v10 (m + 1 + k + 1) _ rfl (HO10.out.alloc _) w10.heap.size 1 1 [BitVec.ofNat 8 (n * 8 / 281474976710656)] rfl rfl (blk_one w10 _ _ (Y_of (n * 8 / 281474976710656) ((n : Int) * 8 / 281474976710656) (by omega))) (by omega) (by have := HB10.out.size; simp; omega) ?_
   intro v11 w11 ho11 hg11
   have HB11 : Hid (Below w.heap.size w w11) := Lib.hid ((HB10.out.alloc HB10.out.size _).grown hg11 (by have := HB10.out.size; simp; omega) (fun k hk => (HO10.out.lt k hk).1))
   have HO11 := Lib.hid ho11
   have d9 : w11.cell? ⟨g, 9, none⟩ = some (.int .u64 (n : Int)) := (HB11.out.cell hglt).trans C9.out
   clear ho11 hg11
   go_wp2
   rw [rounds_succ]
   go_wp2_with (at_builtin; refine Stop ?_)
   refine Lib.hid ?_
   refine wpList_append_new rfl _ _ rfl w.heap.size v11 (m + 1 + k + 1 + 1) _ rfl (HO11.out.alloc _) w11.heap.size 1 1 [BitVec.ofNat 8 (n * 8 / 1099511627776)] rfl rfl (blk_one w11 _ _ (Y_of (n * 8 / 1099511627776) ((n : Int) * 8 / 1099511627776) (by omega))) (by omega) (by have := HB11.out.size; simp; omega) ?_
   intro v12 w12 ho12 hg12
   have HB12 : Hid (Below w.heap.size w w12) := Lib.hid ((HB11.out.alloc HB11.out.size _).grown hg12 (by have := HB11.out.size; simp; omega) (fun k hk => (HO11.out.lt k hk).1))
   have HO12 := Lib.hid ho12
   have d9 : w12.cell? ⟨g, 9, none⟩ = some (.int .u64 (n : Int)) := (HB12.out.cell hglt).trans C9.out
   clear ho12 hg12
   go_wp2
   rw [rounds_succ]
   go_wp2_with (at_builtin; refine Stop ?_)
   refine Lib.hid ?_
   refine wpList_append_new rfl _ _ rfl w.heap.size v12 (m + 1 + k + 1 + 1 + 1) _ rfl (HO12.out.alloc _) w12.heap.size 1 1 [BitVec.ofNat 8 (n * 8 / 4294967296)] rfl rfl (blk_one w12 _ _ (Y_of (n * 8 / 4294967296) ((n : Int) * 8 / 4294967296 % 256) (by omega))) (by omega) (by have := HB12.out.size; simp; omega) ?_
   intro v13 w13 ho13 hg13
   have HB13 : Hid (Below w.heap.size w w13) := Lib.hid ((HB12.out.alloc HB12.out.size _).grown hg13 (by have := HB12.out.size; simp; omega) (fun k hk => (HO12.out.lt k hk).1))
   have HO13 := Lib.hid ho13
   have d9 : w13.cell? ⟨g, 9, none⟩ = some (.int .u64 (n : Int)) := (HB13.out.cell hglt).trans C9.out
   clear ho13 hg13
   go_wp2
   rw [rounds_succ]
   go_wp2_with (at_builtin; refine Stop ?_)
   refine Lib.hid ?_
   refine wpList_append_new rfl _ _ rfl w.heap.size v13 (m + 1 + k + 1 + 1 + 1 + 1) _ rfl (HO13.out.alloc _) w13.heap.size 1 1 [BitVec.ofNat 8 (n * 8 / 16777216)] rfl rfl (blk_one w13 _ _ (Y_of (n * 8 / 16777216) ((n : Int) * 8 / 16777216 % 256) (by omega))) (by omega) (by have := HB13.out.size; simp; omega) ?_
   intro v14 w14 ho14 hg14
   have HB14 : Hid (Below w.heap.size w w14) := Lib.hid ((HB13.out.alloc HB13.out.size _).grown hg14 (by have := HB13.out.size; simp; omega) (fun k hk => (HO13.out.lt k hk).1))
   have HO14 := Lib.hid ho14
   have d9 : w14.cell? ⟨g, 9, none⟩ = some (.int .u64 (n : Int)) := (HB14.out.cell hglt).trans C9.out
   clear ho14 hg14
   go_wp2
   rw [rounds_succ]
   go_wp2_with (at_builtin; refine Stop ?_)
   refine Lib.hid ?_
   refine wpList_append_new rfl _ _ rfl w.heap.size v14 (m + 1 + k + 1 + 1 + 1 + 1 + 1) _ rfl (HO14.out.alloc _) w14.heap.size 1 1 [BitVec.ofNat 8 (n * 8 / 65536)] rfl rfl (blk_one w14 _ _ (Y_of (n * 8 / 65536) ((n : Int) * 8 / 65536 % 256) (by omega))) (by omega) (by have := HB14.out.size; simp; omega) ?_
   intro v15 w15 ho15 hg15
   have HB15 : Hid (Below w.heap.size w w15) := Lib.hid ((HB14.out.alloc HB14.out.size _).grown hg15 (by have := HB14.out.size; simp; omega) (fun k hk => (HO14.out.lt k hk).1))
   have HO15 := Lib.hid ho15
   have d9 : w15.cell? ⟨g, 9, none⟩ = some (.int .u64 (n : Int)) := (HB15.out.cell hglt).trans C9.out
   clear ho15 hg15
   go_wp2
   rw [rounds_succ]
   go_wp2_with (at_builtin; refine Stop ?_)
   refine Lib.hid ?_
   refine wpList_append_new rfl _ _ rfl w.heap.size v15 (m + 1 + k + 1 + 1 + 1 + 1 + 1 + 1) _ rfl (HO15.out.alloc _) w15.heap.size 1 1 [BitVec.ofNat 8 (n * 8 / 256)] rfl rfl (blk_one w15 _ _ (Y_of (n * 8 / 256) ((n : Int) * 8 / 256 % 256) (by omega))) (by omega) (by have := HB15.out.size; simp; omega) ?_
   intro v16 w16 ho16 hg16
   have HB16 : Hid (Below w.heap.size w w16) := Lib.hid ((HB15.out.alloc HB15.out.size _).grown hg16 (by have := HB15.out.size; simp; omega) (fun k hk => (HO15.out.lt k hk).1))
   have HO16 := Lib.hid ho16
   have d9 : w16.cell? ⟨g, 9, none⟩ = some (.int .u64 (n : Int)) := (HB16.out.cell hglt).trans C9.out
   clear ho16 hg16
   go_wp2
   rw [rounds_succ]
   go_wp2_with (at_builtin; refine Stop ?_)
   refine Lib.hid ?_
   refine wpList_append_new rfl _ _ rfl w.heap.size v16 (m + 1 + k + 1 + 1 + 1 + 1 + 1 + 1 + 1) _ rfl (HO16.out.alloc _) w16.heap.size 1 1 [BitVec.ofNat 8 (n * 8)] rfl rfl (blk_one w16 _ _ (Y_of (n * 8) ((n : Int) * 8 % 256) (by omega))) (by omega) (by have := HB16.out.size; simp; omega) ?_
   intro v17 w17 ho17 hg17
   have HB17 : Hid (Below w.heap.size w w17) := Lib.hid ((HB16.out.alloc HB16.out.size _).grown hg17 (by have := HB16.out.size; simp; omega) (fun k hk => (HO16.out.lt k hk).1))
   have HO17 := Lib.hid ho17
   have d9 : w17.cell? ⟨g, 9, none⟩ = some (.int .u64 (n : Int)) := (HB17.out.cell hglt).trans C9.out
   clear ho17 hg17
   go_wp2
   clear d9
   have hgs : w17.heap[g]? = some (.cells (HCc S (.slice a0 m c0) n) 134 (0, 0)) := (HB17.out.block g hglt).trans HG.out
   have x0 : w17.cell? ⟨g, 0, none⟩ = some (U S.a) := cell_of_row _ _ _ _ _ _ hgs
   have x1 : w17.cell? ⟨g, 1, none⟩ = some (U S.b) := cell_of_row _ _ _ _ _ _ hgs
   have x2 : w17.cell? ⟨g, 2, none⟩ = some (U S.c) := cell_of_row _ _ _ _ _ _ hgs
   have x3 : w17.cell? ⟨g, 3, none⟩ = some (U S.d) := cell_of_row _ _ _ _ _ _ hgs
   have x4 : w17.cell? ⟨g, 4, none⟩ = some (U S.e) := cell_of_row _ _ _ _ _ _ hgs
   have x5 : w17.cell? ⟨g, 5, none⟩ = some (U S.f) := cell_of_row _ _ _ _ _ _ hgs
   have x6 : w17.cell? ⟨g, 6, none⟩ = some (U S.g) := cell_of_row _ _ _ _ _ _ hgs
   have x7 : w17.cell? ⟨g, 7, none⟩ = some (U S.h) := cell_of_row _ _ _ _ _ _ hgs
   have HQ := Lib.hid (heap_alloc_new w17 (.cells (#[.int .u32 0, .int .u32 0, .int .u32 0, .int .u32 0, .int .u32 0, .int .u32 0, .int .u32 0, .int .u32 0]) 132))
   clear hgs
   rw [rounds_succ]
   go_wp2_with ((with_reducible refine gate_store (t := 132) (p := 5) rfl ?_); refine store_event (t := 132) (p := 5) (v := ?vo1) (w1 := (w17.alloc (.cells (#[.int .u32 0, .int .u32 0, .int .u32 0, .int .u32 0, .int .u32 0, .int .u32 0, .int .u32 0, .int .u32 0]) 132)).setRow w17.heap.size S.row) ?hg1 ?ho1 ?hn1 ?hr1 ?_; (case ho1 => rfl); (case hg1 => rfl); (case hn1 => rfl); (case hr1 => exact store_row_run rfl w17.heap.size rfl S.row rfl 132 _ HQ.out rfl (row_one _) info8); intro w18 hw18; have HT18 : Hid (w18.heap[w17.heap.size]? = some (.cells S.row 132 (0, 0))) := (by rw [hw18]; exact Lib.hid (setRow_heap _ _ _ _ _ _ HQ.out)); have HZ18 : Hid (Below w17.heap.size w17 w18) := (by rw [hw18]; exact Lib.hid (setRow_below _ _ _ _ _ (Below.alloc (Below.refl _ _) (Nat.le_refl _) _) (Nat.le_refl _))); clear hw18 x0 x1 x2 x3 x4 x5 x6 x7)
   obtain ⟨P, hP⟩ : ∃ P, R ++ [128#8] ++ List.replicate k 0#8 ++ eight (n * 8) = P := ⟨_, rfl⟩
   have hO17 : w17.ownsRow w.heap.size 5 1 v17 (m + 1 + k + 8) (P.map Y) := by
    rw [← hP]
    have h := HO17.out
    have e : R ++ [128#8] ++ List.replicate k 0#8 ++ eight (n * 8) = R ++ [128#8] ++ List.replicate k 0#8 ++ [BitVec.ofNat 8 (n * 8 / 72057594037927936)] ++ [BitVec.ofNat 8 (n * 8 / 281474976710656)] ++ [BitVec.ofNat 8 (n * 8 / 1099511627776)] ++ [BitVec.ofNat 8 (n * 8 / 4294967296)] ++ [BitVec.ofNat 8 (n * 8 / 16777216)] ++ [BitVec.ofNat 8 (n * 8 / 65536)] ++ [BitVec.ofNat 8 (n * 8 / 256)] ++ [BitVec.ofNat 8 (n * 8)] := by
     unfold eight
     simp only [List.append_assoc, List.cons_append, List.nil_append]
    rw [e]
    exact h
   have hPl := length_of_own hO17
   have HPM : Hid (padB M = M.take (64 * (n / 64)) ++ P) := Lib.hid (by
    obtain ⟨q1, q2, q3, q4, q5, q6⟩ := HSS.out
    have e0 : (M.length + 1) % 64 = (m + 1) % 64 := by omega
    rw [← hP, padB, e0, HK.out, q2, ← q4]
    rw [← List.append_assoc, ← List.append_assoc, ← List.append_assoc, List.take_append_drop])
   obtain ⟨NB, hNB⟩ : ∃ NB, (m + 1 + k + 8) = 64 * NB := ⟨(m + 1 + k + 8) / 64, by omega⟩
   have hlt17 : ∀ kk, v17.ownBlock = some kk → w.heap.size ≤ kk ∧ kk < w17.heap.size := fun kk h => ⟨(hO17.lt kk h).1, (hO17.lt kk h).2⟩
   obtain ⟨gs, hgs⟩ : ∃ gs, w17.heap.size = gs := ⟨_, rfl⟩
   have hBg : w.heap.size ≤ gs := by rw [← hgs]; exact HB17.out.size
   have hR0 : ReadsN w18 gs v17 P := by
    rcases hO17.2 with ⟨_, h0⟩ | ⟨gr, cap, cur, hv, hb, hg, hnc, _, hs, ht⟩
    ·
     omega
    ·
     have hgr := (hO17.lt gr (by rw [hv]; rfl)).2
     refine ⟨gr, 0, cap, by rw [hv, hPl], by omega, by omega, fun j u hu => ?_⟩
     have h1 := hO17.cells (g := gr) (by rw [hv]; rfl) j u hu
     rw [Addr.add_lit] at h1
     exact (HZ18.out.cell hgr).trans h1
   have HT0 : Hid (w18.heap[gs]? = some (.cells S.row 132 (0, 0))) := Lib.hid (by rw [← hgs]; exact HT18.out)
   have HB0 : Hid (Below w.heap.size w w18) := Lib.hid (HB17.out.trans (HZ18.out.mono HB17.out.size))
   have HR0 := Lib.hid hR0
   have HP := Lib.hid (And.intro hPl hNB)
   rw [hgs]
   clear hO17 hPl hNB hlt17 hR0 HT18 HZ18 hP HQ hgs HO17 h56 hk64
   clear HO10 HB10 HO11 HB11 HO12 HB12 HO13 HB13 HO14 HB14 HO15 HB15 HO16 HB16 HB17
   go_loopg [3] NB (fun kq v3 w' => ∃ (j : Nat), j + kq = NB ∧ Hid (w'.heap[gs]? = some (.cells (St.fold S P j).row 132 (0, 0))) ∧ Hid (ReadsN w' gs v3 (P.drop (64 * j))) ∧ Hid (Below w.heap.size w w'))
   case atStart => exact ⟨0, Nat.zero_add _, HT0, HR0, HB0⟩
   case round =>
    clear HT0 HR0 HB0
    obtain ⟨j, hj, HT, HR, HB⟩ := hrel
    obtain ⟨gr, o, c, hv, hc, hgr, hcell⟩ := HR.out
    have hlen : (P.drop (64 * j)).length = (m + 1 + k + 8) - 64 * j := by rw [List.length_drop, HP.out.1]
    rw [hlen] at hv hc
    obtain ⟨l1, hl1⟩ : ∃ l1, m + 1 + k + 8 - 64 * j = l1 := ⟨_, rfl⟩
    rw [hl1] at hv hc hlen
    subst hv
    have HCL := Lib.hid hcell
    obtain ⟨t, ht⟩ : ∃ t, St.fold S P j = t := ⟨_, rfl⟩
    rw [ht] at HT
    have HTT := Lib.hid ht
    have x0 : wr.cell? ⟨gs, 0, none⟩ = some (U t.a) := cell_of_row _ _ _ _ _ _ HT.out
    have x1 : wr.cell? ⟨gs, 1, none⟩ = some (U t.b) := cell_of_row _ _ _ _ _ _ HT.out
    have x2 : wr.cell? ⟨gs, 2, none⟩ = some (U t.c) := cell_of_row _ _ _ _ _ _ HT.out
    have x3 : wr.cell? ⟨gs, 3, none⟩ = some (U t.d) := cell_of_row _ _ _ _ _ _ HT.out
    have x4 : wr.cell? ⟨gs, 4, none⟩ = some (U t.e) := cell_of_row _ _ _ _ _ _ HT.out
    have x5 : wr.cell? ⟨gs, 5, none⟩ = some (U t.f) := cell_of_row _ _ _ _ _ _ HT.out
    have x6 : wr.cell? ⟨gs, 6, none⟩ = some (U t.g) := cell_of_row _ _ _ _ _ _ HT.out
    have x7 : wr.cell? ⟨gs, 7, none⟩ = some (U t.h) := cell_of_row _ _ _ _ _ _ HT.out
    by_cases hjN : j < NB
    ·
     cases gk with
     | zero => exact absurd hj (by omega)
     | succ k1 =>
     have h64 : 64 ≤ l1 := by have := HP.out; omega
     have hpos : decide (0 < l1) = true := decide_eq_true (by omega)
     obtain ⟨o2, hs2, ho2⟩ := slice_of64 gr o l1 c wr h64 hc
     have hs1 := fun w => slice_to64 gr o l1 c w (by omega)
     have HX := Lib.hid (And.intro ho2 (And.intro hl1 (And.intro hlen (And.intro hc hj))))
     have hb64 : ∀ i, i < 64 → wr.drew.cell? ⟨gr, o + i, none⟩ = some (Y ((P.drop (64 * j)).getD i 0#8)) := fun i hi => Reads.cellD HCL.out i (by rw [hlen]; omega)
     have HB64 := Lib.hid hb64
     have HTW : Hid (table wr.drew) := Lib.hid (table_below HTB.out HB.out.drew (by omega))
     clear ht hl1 ho2 hlen hc hcell hj hb64
     go_wp2
     go_still_tail 3, (by kernel_rfl)
     go_wp2_with (first
      | (go_at_call 85; refine (block_o t (fun i => (P.drop (64 * j)).getD i 0#8) gr o c wr.drew HB64.out HTW.out).mono ?_; rintro e w3 ⟨t1, ht1, rfl, hb3⟩; have HB4 := Lib.hid hb3; have HT1 := Lib.hid ht1; clear hb3 ht1)
      | ((with_reducible refine gate_store (t := 132) (p := 5) rfl ?_); refine store_event (t := 132) (p := 5) (v := ?vo2) (w1 := w3.setRow gs t1.row) ?hg2 ?ho2 ?hn2 ?hr2 ?_; (case ho2 => rfl); (case hg2 => rfl); (case hn2 => rfl); (case hr2 => exact store_row_run rfl gs rfl t1.row rfl 132 _ ((HB4.out.block gs (Array.getElem?_eq_some_iff.1 HT.out).1).trans HT.out) rfl (row_one _) info8); intro w4 hw4; have HW4 := Lib.hid hw4; clear hw4 x0 x1 x2 x3 x4 x5 x6 x7))
     have hb4 : w4.heap[gs]? = some (.cells t1.row 132 (0, 0)) := by rw [HW4.out]; exact setRow_heap _ _ _ _ _ _ ((HB4.out.block gs (Array.getElem?_eq_some_iff.1 HT.out).1).trans HT.out)
     have hz4 : Below w.heap.size w w4 := by rw [HW4.out]; exact setRow_below _ _ _ _ _ (HB.out.drew.trans (HB4.out.mono HB.out.size)) hBg
     have hc4 : ∀ a : Addr, a.block ≠ gs → a.block < wr.heap.size → w4.cell? a = wr.cell? a := fun a h1 h2 => by
      rw [HW4.out]
      exact (World.cell?_of_block (setRow_other _ _ _ _ h1)).trans (World.cell?_of_block (HB4.out.block _ h2))
     go_roundg k1
     case measure => omega
     case rel =>
      obtain ⟨q1, q2, q3, q4, q5⟩ := HX.out
      refine ⟨j + 1, by omega, Lib.hid ?_, Lib.hid ?_, Lib.hid hz4⟩
      ·
       have e : St.fold S P (j + 1) = t1 := by
        rw [St.fold, HTT.out, ← HT1.out]
        congr 1
        funext i
        rw [List.getD_eq_getElem?_getD, List.getD_eq_getElem?_getD, List.getElem?_drop]
       rw [e]
       exact hb4
      ·
       have e1 : (P.drop (64 * (j + 1))).length = l1 - 64 := by rw [List.length_drop, HP.out.1]; omega
       refine ⟨gr, o2, c - 64, by rw [e1], by rw [e1]; omega, hgr, fun i u hu => ?_⟩
       have hi : i < l1 - 64 := by
        have := (List.getElem?_eq_some_iff.1 hu).1
        rw [List.length_map, e1] at this
        exact this
       have eo : o2 = o + 64 := q1 (by omega)
       subst eo
       have h1 := HCL.out (64 + i) u (by
        rw [← hu, List.getElem?_map, List.getElem?_map, List.getElem?_drop, List.getElem?_drop]
        congr 2
        omega)
       have h2 : wr.cell? ⟨gr, o + 64 + i, none⟩ = some u := by rw [Nat.add_assoc]; exact h1
       exact (hc4 ⟨gr, o + 64 + i, none⟩ hgr (World.block_lt_of_cell? wr _ h2)).trans h2
    ·
     have hl0 : l1 = 0 := by have := HP.out; omega
     have hpos : decide (0 < l1) = false := decide_eq_false (by omega)
     have hjn : j = NB := by omega
     have HF : Hid (sha M = t.out 8) := Lib.hid (by
      obtain ⟨q1, q2, q3, q4, q5, q6⟩ := HSS.out
      have hlt : (M.take (64 * (n / 64))).length = 64 * (n / 64) := by rw [List.length_take]; omega
      have hlp : (padB M).length = 64 * (n / 64 + NB) := by rw [HPM.out, List.length_append, hlt, HP.out.1]; have := HP.out; omega
      have hfold : St.fold H0 (padB M) (n / 64 + NB) = t := by
       rw [fold_add, HPM.out, fold_append _ _ _ _ (by omega), List.drop_append_of_le_length (by omega), List.drop_of_length_le (by omega), List.nil_append]
       have e2 : St.fold H0 (M.take (64 * (n / 64))) (n / 64) = S := by
        rw [← q1]
        have h3 := fold_append H0 (M.take (64 * (n / 64))) (M.drop (64 * (n / 64))) (n / 64) (by omega)
        rw [List.take_append_drop] at h3
        exact h3.symm
       rw [e2, ← hjn]
       exact HTT.out
      rw [sha, hlp, Nat.mul_div_cancel_left _ (by decide), hfold])
     clear ht hl1 hlen hc hcell hj hjn hjN HTT HR HCL
     subst hl0
     have hcv8 : ∀ (x : BitVec 32) (w : World), (convert 131 5 (U x)).run Tryd.prog w = .ok (Y (x.truncate 8)) w := fun x w => u_convert8 w _ _ x (by kernel_rfl) (by kernel_rfl)
     have HB20 := HB
     have HO20 : Hid (wr.ownsRow w.heap.size 5 1 (.slice none 0 0) 0 ((t.out 0).map Y)) := Lib.hid (World.ownsRow_nil _ _ _ _)
     clear HB HT
     go_wp2
     clear x0 x1 x2 x3 x4 x5 x6 x7
     refine wp_loop_rounds 9 ?_
     have hix0 : ∀ w, (Instr.index 132 (.agg #[U t.a, U t.b, U t.c, U t.d, U t.e, U t.f, U t.g, U t.h]) (.int .i64 0)).run Tryd.prog w = .ok (U t.a) w := fun w => index_row t 0 (by decide) w
     have hix1 : ∀ w, (Instr.index 132 (.agg #[U t.a, U t.b, U t.c, U t.d, U t.e, U t.f, U t.g, U t.h]) (.int .i64 1)).run Tryd.prog w = .ok (U t.b) w := fun w => index_row t 1 (by decide) w
     have hix2 : ∀ w, (Instr.index 132 (.agg #[U t.a, U t.b, U t.c, U t.d, U t.e, U t.f, U t.g, U t.h]) (.int .i64 2)).run Tryd.prog w = .ok (U t.c) w := fun w => index_row t 2 (by decide) w
     have hix3 : ∀ w, (Instr.index 132 (.agg #[U t.a, U t.b, U t.c, U t.d, U t.e, U t.f, U t.g, U t.h]) (.int .i64 3)).run Tryd.prog w = .ok (U t.d) w := fun w => index_row t 3 (by decide) w
     have hix4 : ∀ w, (Instr.index 132 (.agg #[U t.a, U t.b, U t.c, U t.d, U t.e, U t.f, U t.g, U t.h]) (.int .i64 4)).run Tryd.prog w = .ok (U t.e) w := fun w => index_row t 4 (by decide) w
     have hix5 : ∀ w, (Instr.index 132 (.agg #[U t.a, U t.b, U t.c, U t.d, U t.e, U t.f, U t.g, U t.h]) (.int .i64 5)).run Tryd.prog w = .ok (U t.f) w := fun w => index_row t 5 (by decide) w
     have hix6 : ∀ w, (Instr.index 132 (.agg #[U t.a, U t.b, U t.c, U t.d, U t.e, U t.f, U t.g, U t.h]) (.int .i64 6)).run Tryd.prog w = .ok (U t.g) w := fun w => index_row t 6 (by decide) w
     have hix7 : ∀ w, (Instr.index 132 (.agg #[U t.a, U t.b, U t.c, U t.d, U t.e, U t.f, U t.g, U t.h]) (.int .i64 7)).run Tryd.prog w = .ok (U t.h) w := fun w => index_row t 7 (by decide) w
     rw [rounds_succ]
     go_wp2_with (at_builtin; refine Stop ?_)
     refine Lib.hid ?_
     refine wpList_append_new rfl _ _ rfl w.heap.size _ (4 * 0) (t.out 0) rfl (HO20.out.alloc _) wr.heap.size 4 4 (fourB (t.get 0)) rfl rfl (blk_four wr _) (by decide) (by have := HB20.out.size; simp; omega) ?_
     intro v21 w21 ho21 hg21
     have HB21 : Hid (Below w.heap.size w w21) := Lib.hid ((HB20.out.alloc HB20.out.size _).grown hg21 (by have := HB20.out.size; simp; omega) (fun k hk => (HO20.out.lt k hk).1))
     rw [← out_succ] at ho21
     have HO21 := Lib.hid ho21
     clear ho21 hg21 hix0
     go_wp2
     rw [rounds_succ]
     go_wp2_with (at_builtin; refine Stop ?_)
     refine Lib.hid ?_
     refine wpList_append_new rfl _ _ rfl w.heap.size _ (4 * 1) (t.out 1) rfl (HO21.out.alloc _) w21.heap.size 4 4 (fourB (t.get 1)) rfl rfl (blk_four w21 _) (by decide) (by have := HB21.out.size; simp; omega) ?_
     intro v22 w22 ho22 hg22
     have HB22 : Hid (Below w.heap.size w w22) := Lib.hid ((HB21.out.alloc HB21.out.size _).grown hg22 (by have := HB21.out.size; simp; omega) (fun k hk => (HO21.out.lt k hk).1))
     rw [← out_succ] at ho22
     have HO22 := Lib.hid ho22
     clear ho22 hg22 hix1
     go_wp2
     rw [rounds_succ]
     go_wp2_with (at_builtin; refine Stop ?_)
     refine Lib.hid ?_
     refine wpList_append_new rfl _ _ rfl w.heap.size _ (4 * 2) (t.out 2) rfl (HO22.out.alloc _) w22.heap.size 4 4 (fourB (t.get 2)) rfl rfl (blk_four w22 _) (by decide) (by have := HB22.out.size; simp; omega) ?_
     intro v23 w23 ho23 hg23
     have HB23 : Hid (Below w.heap.size w w23) := Lib.hid ((HB22.out.alloc HB22.out.size _).grown hg23 (by have := HB22.out.size; simp; omega) (fun k hk => (HO22.out.lt k hk).1))
     rw [← out_succ] at ho23
     have HO23 := Lib.hid ho23
     clear ho23 hg23 hix2
     go_wp2
     rw [rounds_succ]
     go_wp2_with (at_builtin; refine Stop ?_)
     refine Lib.hid ?_
     refine wpList_append_new rfl _ _ rfl w.heap.size _ (4 * 3) (t.out 3) rfl (HO23.out.alloc _) w23.heap.size 4 4 (fourB (t.get 3)) rfl rfl (blk_four w23 _) (by decide) (by have := HB23.out.size; simp; omega) ?_
     intro v24 w24 ho24 hg24
     have HB24 : Hid (Below w.heap.size w w24) := Lib.hid ((HB23.out.alloc HB23.out.size _).grown hg24 (by have := HB23.out.size; simp; omega) (fun k hk => (HO23.out.lt k hk).1))
     rw [← out_succ] at ho24
     have HO24 := Lib.hid ho24
     clear ho24 hg24 hix3
     go_wp2
     rw [rounds_succ]
     go_wp2_with (at_builtin; refine Stop ?_)
     refine Lib.hid ?_
     refine wpList_append_new rfl _ _ rfl w.heap.size _ (4 * 4) (t.out 4) rfl (HO24.out.alloc _) w24.heap.size 4 4 (fourB (t.get 4)) rfl rfl (blk_four w24 _) (by decide) (by have := HB24.out.size; simp; omega) ?_
     intro v25 w25 ho25 hg25
     have HB25 : Hid (Below w.heap.size w w25) := Lib.hid ((HB24.out.alloc HB24.out.size _).grown hg25 (by have := HB24.out.size; simp; omega) (fun k hk => (HO24.out.lt k hk).1))
     rw [← out_succ] at ho25
     have HO25 := Lib.hid ho25
     clear ho25 hg25 hix4
     go_wp2
     rw [rounds_succ]
     go_wp2_with (at_builtin; refine Stop ?_)
     refine Lib.hid ?_
     refine wpList_append_new rfl _ _ rfl w.heap.size _ (4 * 5) (t.out 5) rfl (HO25.out.alloc _) w25.heap.size 4 4 (fourB (t.get 5)) rfl rfl (blk_four w25 _) (by decide) (by have := HB25.out.size; simp; omega) ?_
     intro v26 w26 ho26 hg26
     have HB26 : Hid (Below w.heap.size w w26) := Lib.hid ((HB25.out.alloc HB25.out.size _).grown hg26 (by have := HB25.out.size; simp; omega) (fun k hk => (HO25.out.lt k hk).1))
     rw [← out_succ] at ho26
     have HO26 := Lib.hid ho26
     clear ho26 hg26 hix5
     go_wp2
     rw [rounds_succ]
     go_wp2_with (at_builtin; refine Stop ?_)
     refine Lib.hid ?_
     refine wpList_append_new rfl _ _ rfl w.heap.size _ (4 * 6) (t.out 6) rfl (HO26.out.alloc _) w26.heap.size 4 4 (fourB (t.get 6)) rfl rfl (blk_four w26 _) (by decide) (by have := HB26.out.size; simp; omega) ?_
     intro v27 w27 ho27 hg27
     have HB27 : Hid (Below w.heap.size w w27) := Lib.hid ((HB26.out.alloc HB26.out.size _).grown hg27 (by have := HB26.out.size; simp; omega) (fun k hk => (HO26.out.lt k hk).1))
     rw [← out_succ] at ho27
     have HO27 := Lib.hid ho27
     clear ho27 hg27 hix6
     go_wp2
     rw [rounds_succ]
     go_wp2_with (at_builtin; refine Stop ?_)
     refine Lib.hid ?_
     refine wpList_append_new rfl _ _ rfl w.heap.size _ (4 * 7) (t.out 7) rfl (HO27.out.alloc _) w27.heap.size 4 4 (fourB (t.get 7)) rfl rfl (blk_four w27 _) (by decide) (by have := HB27.out.size; simp; omega) ?_
     intro v28 w28 ho28 hg28
     have HB28 : Hid (Below w.heap.size w w28) := Lib.hid ((HB27.out.alloc HB27.out.size _).grown hg28 (by have := HB27.out.size; simp; omega) (fun k hk => (HO27.out.lt k hk).1))
     rw [← out_succ] at ho28
     have HO28 := Lib.hid ho28
     clear ho28 hg28 hix7
     go_wp2
     obtain ⟨g3, cap3, hv3, hb3, hcv3⟩ := string_of_row (by decide) HO28.out
     subst hv3
     have hcv := hcv3 w28 rfl
     rw [← HF.out] at hcv
     clear hcv3
     rw [rounds_succ]
     go_wp2
     go_ret
     exact ⟨rfl, HB28.out⟩
  ·
   have h56' : ¬ (((m : Int) + 1 + k) % 64 = 56) := by omega
   cases gk with
   | zero => exact absurd h56 (by omega)
   | succ k1 =>
   have HX := Lib.hid (And.intro hK0 hk)
   clear hK0 hk
   go_wp2_with (at_builtin; refine Stop ?_)
   refine Lib.hid ?_
   refine wpList_append_new rfl _ _ rfl w.heap.size _ (m + 1 + k) _ rfl (HO2.out.alloc _) wr.heap.size 1 1 [0#8] rfl rfl (blk_one wr _ _ Y0) (by have := HX.out; omega) (by have := HB2.out.size; simp; omega) ?_
   intro v3 w3 ho3 hg3
   have HB3 : Hid (Below w.heap.size w w3) := Lib.hid ((HB2.out.alloc HB2.out.size _).grown hg3 (by have := HB2.out.size; simp; omega) (fun k hk => (HO2.out.lt k hk).1))
   have HO3 := Lib.hid ho3
   clear ho3 hg3
   go_wp2
   go_roundg k1
   case measure => omega
   case rel => exact ⟨k + 1, by have := HX.out; omega, by rw [List.replicate_succ', ← List.append_assoc]; exact HO3, HB3⟩
end Go.Proofs.YtdidopoalmkhlaaDoor.Sha
end
section
namespace Go.Proofs.YtdidopoalmkhlaaDoor.Sha
open Go Go.RowKit Go.Proofs.YtdidopoalmkhlaaDoorW.PrintWords Go.Proofs.YtdidopoalmkhlaaDoorW.PrintLast Go.Proofs.YtdidopoalmkhlaaDoorW.PrintMore
set_option linter.unusedVariables false
set_option linter.unusedSimpArgs false
attribute [local go_sem high] Y_cells
attribute [local go_sem] Y_match
def partB (s : ByteArray) : List (BitVec 8) := eight s.size ++ bytesB s
def tagB (p : BitVec 8) (l : List ByteArray) : List (BitVec 8) := [p] ++ l.flatMap partB
theorem bytesB_ofB (l : List (BitVec 8)) : bytesB (ofB l) = l := by
 unfold bytesB ofB
 rw [List.map_map]
 have : (UInt8.toBitVec ∘ UInt8.ofBitVec) = id := by funext x; rfl
 rw [this, List.map_id]
theorem ofB_size (l : List (BitVec 8)) : (ofB l).size = l.length := by
 rw [← bytesB_length, bytesB_ofB]
theorem partB_length (s : ByteArray) : (partB s).length = 8 + s.size := by
 unfold partB
 rw [List.length_append, eight_length, bytesB_length]
theorem conv_lit (w : World) (l : List (BitVec 8)) (cs : Array Value) (h : cs = (l.map Y).toArray) : (convert 101 9 (.slice (some ⟨w.heap.size, 0, none⟩) l.length l.length)).run Tryd.prog (w.alloc (.cells cs 5)) = .ok (.string (ofB l)) (w.alloc (.cells cs 5)) := by
 subst h
 have hlen : (l.map UInt8.ofBitVec).length = l.length := List.length_map _
 have h := run_convert_bytes_back (P := Tryd.prog) (w.alloc (.cells (l.map Y).toArray 5)) 101 9 5 ⟨w.heap.size, 0, none⟩ l.length (l.map UInt8.ofBitVec) und_bytes.1 und_bytes.2.1 und_bytes.2.2 (fun j hj => by
  rw [hlen] at hj
  rw [Addr.add_lit, Nat.zero_add, cell_of_row _ _ _ _ _ _ (heap_alloc_new w _)]
  rw [List.getElem?_toArray, List.getElem?_map, List.getElem?_eq_getElem hj, List.getElem_map]
  simp only [Option.map_some]
  rw [Y_def]
  rfl)
 rw [hlen] at h
 exact h
theorem hash_alloc {w : World} {g : Nat} {M : List (BitVec 8)} (h : isHash w g M) (o : Obj) : isHash (w.alloc o) g M := by
 obtain ⟨v, h1, h2⟩ := h
 exact ⟨v, (Below.heap_alloc w o g (Array.getElem?_eq_some_iff.1 h1).1).trans h1, h2.alloc o⟩
theorem table_lt {w : World} (h : table w) : 0 < w.heap.size := by
 obtain ⟨cs, t, fr, h1, _⟩ := h
 exact (Array.getElem?_eq_some_iff.1 h1).1
set_option maxRecDepth 100000 in
set_option maxHeartbeats 60000000 in
theorem Tagged (p : BitVec 8) (A0 : Option Addr) (c0 : Nat) (l : List ByteArray) (w : World) (hr0 : Kd.C Kd.string w A0 l.length l) (hc0 : l.length ≤ c0) (hb : (tagB p l).length ≤ 1099511627776) (hT : table w) : Calls Tryd.prog 27 #[Y p, .slice A0 l.length c0] w fun e w' => e = .returned (.string (ofB (sha (tagB p l)))) ∧ Below w.heap.size w w' := by
 have HR := Lib.hid hr0
 have HB := Lib.hid hb
 have HT := Lib.hid hT
 have hp0 := table_lt hT
 clear hr0 hb hT
 go_enter Tryd.func27, Tryd.ntmps27
 go_wp2_with (first
  | (go_at_call 64; refine (New _).mono ?_; rintro e w1 ⟨rfl, hh1, hb1⟩; have HH1 := Lib.hid hh1; have HB1 := Lib.hid hb1; have hcv1 : (convert 101 9 (.slice (some ⟨w1.heap.size, 0, none⟩) 1 1)).run Tryd.prog (w1.alloc (.cells #[Y p] 5)) = .ok (.string (ofB [p])) (w1.alloc (.cells #[Y p] 5)) := conv_lit w1 [p] _ rfl; clear hh1 hb1)
  | (go_at_call 65; refine (Write _ w.heap.size [] (ofB [p]) (by rw [ofB_size]; simp) (hash_alloc HH1.out _) (table_below HT.out (HB1.out.alloc HB1.out.size _) hp0) hp0).mono ?_; rintro e w2 ⟨rfl, hh2, hb2⟩; have HH2 := Lib.hid hh2; have HB2 : Hid (Below w.heap.size w w2) := Lib.hid ((HB1.out.alloc HB1.out.size _).trans hb2); clear hh2 hb2 hcv1))
 go_loopg [17] l.length (fun kq v17 w' => ∃ (j : Nat), v17 = .int .i64 (j : Int) ∧ j + kq = l.length ∧ Hid (isHash w' w.heap.size (tagB p (l.take j))) ∧ Hid (Below w.heap.size w w'))
 case atStart => exact ⟨0, rfl, Nat.zero_add _, by rw [bytesB_ofB] at HH2; simpa [tagB] using HH2, HB2⟩
 case round =>
  clear HH1 HB1 HH2 HB2
  obtain ⟨j, rfl, hj, HH, HBB⟩ := hrel
  by_cases hjl : j < l.length
  ·
   cases gk with
   | zero => exact absurd hj (by omega)
   | succ k1 =>
   have hln : l.length ≤ 9223372036854775807 := HR.out.2.1
   have HC := Kd.C_below HR.out HBB.out
   obtain ⟨ad, e, x0⟩ := Kd.at_string HC (j : Int) (by omega) (by omega)
   rw [Int.toNat_natCast] at x0
   subst e
   obtain ⟨s, hs⟩ : ∃ s, Go.Proofs.YtdidopoalmkhlaaDoorW.PrintWords.rdOf ByteArray.empty l (j : Int) = s := ⟨_, rfl⟩
   rw [hs] at x0
   have htk : l.take (j + 1) = l.take j ++ [s] := by
    rw [List.take_succ_eq_append_getElem hjl, ← hs]
    congr 2
    unfold rdOf
    rw [Int.toNat_natCast, List.getD_eq_getElem?_getD, List.getElem?_eq_getElem hjl]
    rfl
   have htg : tagB p (l.take (j + 1)) = tagB p (l.take j) ++ partB s := by
    rw [htk]
    unfold tagB
    rw [List.flatMap_append]
    simp
   have hle : (tagB p (l.take (j + 1))).length ≤ 1099511627776 := by
    refine Nat.le_trans ?_ HB.out
    have e2 : l = l.take (j + 1) ++ l.drop (j + 1) := (List.take_append_drop _ _).symm
    have e3 : tagB p l = tagB p (l.take (j + 1)) ++ (l.drop (j + 1)).flatMap partB := by
     conv => lhs; rw [e2]
     unfold tagB
     rw [List.flatMap_append, List.append_assoc]
    rw [e3, List.length_append]
    omega
   rw [htg, List.length_append, partB_length] at hle
   have hsz : s.size ≤ 1099511627776 := by omega
   have HLE := Lib.hid hle
   have HTG := Lib.hid htg
   have el : decide ((j : Int) < l.length) = true := decide_eq_true (by omega)
   have wi : IntKind.i64.wrap ((j : Int) + 1) = (j : Int) + 1 := IntWalk.i64_in _ (by omega)
   have hj0 : (0 : Int) ≤ j := by omega
   have hj1 : (j : Int) < l.length := by omega
   have hcs : (#[.int .u8 ((s.size : Int) / 72057594037927936), .int .u8 ((s.size : Int) / 281474976710656), .int .u8 ((s.size : Int) / 1099511627776), .int .u8 ((s.size : Int) / 4294967296 % 256), .int .u8 ((s.size : Int) / 16777216 % 256), .int .u8 ((s.size : Int) / 65536 % 256), .int .u8 ((s.size : Int) / 256 % 256), .int .u8 ((s.size : Int) % 256)] : Array Value) = ((eight s.size).map Y).toArray := by
    unfold eight
    simp only [List.map_cons, List.map_nil]
    rw [← Y_of (s.size / 72057594037927936) ((s.size : Int) / 72057594037927936) (by omega), ← Y_of (s.size / 281474976710656) ((s.size : Int) / 281474976710656) (by omega), ← Y_of (s.size / 1099511627776) ((s.size : Int) / 1099511627776) (by omega), ← Y_of (s.size / 4294967296) ((s.size : Int) / 4294967296 % 256) (by omega), ← Y_of (s.size / 16777216) ((s.size : Int) / 16777216 % 256) (by omega), ← Y_of (s.size / 65536) ((s.size : Int) / 65536 % 256) (by omega), ← Y_of (s.size / 256) ((s.size : Int) / 256 % 256) (by omega), ← Y_of s.size ((s.size : Int) % 256) (by omega)]
   have hcv2 : (convert 101 9 (.slice (some ⟨wr.heap.size, 0, none⟩) 8 8)).run Tryd.prog (wr.alloc (.cells #[.int .u8 ((s.size : Int) / 72057594037927936), .int .u8 ((s.size : Int) / 281474976710656), .int .u8 ((s.size : Int) / 1099511627776), .int .u8 ((s.size : Int) / 4294967296 % 256), .int .u8 ((s.size : Int) / 16777216 % 256), .int .u8 ((s.size : Int) / 65536 % 256), .int .u8 ((s.size : Int) / 256 % 256), .int .u8 ((s.size : Int) % 256)] 5)) = .ok (.string (ofB (eight s.size))) (wr.alloc (.cells #[.int .u8 ((s.size : Int) / 72057594037927936), .int .u8 ((s.size : Int) / 281474976710656), .int .u8 ((s.size : Int) / 1099511627776), .int .u8 ((s.size : Int) / 4294967296 % 256), .int .u8 ((s.size : Int) / 16777216 % 256), .int .u8 ((s.size : Int) / 65536 % 256), .int .u8 ((s.size : Int) / 256 % 256), .int .u8 ((s.size : Int) % 256)] 5)) := conv_lit wr (eight s.size) _ hcs
   clear hle htg htk hs HC hcs
   go_wp2_with (go_at_call 65; refine Stop ?_)
   refine Lib.hid ?_
   refine (Write _ w.heap.size (tagB p (l.take j)) (ofB (eight s.size)) (by rw [ofB_size, eight_length]; have := HLE.out; omega) (hash_alloc HH.out _) (table_below HT.out (HBB.out.alloc HBB.out.size _) hp0) hp0).mono ?_
   rintro e w3 ⟨rfl, hh3, hb3⟩
   rw [bytesB_ofB] at hh3
   have HH3 := Lib.hid hh3
   have HB3 : Hid (Below w.heap.size w w3) := Lib.hid ((HBB.out.alloc HBB.out.size _).trans hb3)
   clear hh3 hb3 hcv2 x0
   go_wp2_with (go_at_call 65; refine Stop ?_)
   refine Lib.hid ?_
   refine (Write w3 w.heap.size (tagB p (l.take j) ++ eight s.size) s (by rw [List.length_append, eight_length]; have := HLE.out; omega) HH3.out (table_below HT.out HB3.out hp0) hp0).mono ?_
   rintro e w4 ⟨rfl, hh4, hb4⟩
   rw [List.append_assoc] at hh4
   have HH4 : Hid (isHash w4 w.heap.size (tagB p (l.take (j + 1)))) := Lib.hid (by rw [HTG.out]; exact hh4)
   have HB4 : Hid (Below w.heap.size w w4) := Lib.hid (HB3.out.trans hb4)
   clear hh4 hb4
   go_wp2
   go_roundg k1
   case measure => omega
   case rel => exact ⟨j + 1, congrArg (Value.int .i64) (by omega), by omega, HH4, HB4⟩
  ·
   obtain rfl : j = l.length := by omega
   have el : decide ((l.length : Int) < l.length) = false := by simp
   rw [List.take_length] at HH
   go_wp2_with (go_at_call 66; refine Stop ?_)
   refine Lib.hid ?_
   refine (HSum wr w.heap.size (tagB p l) (by have := HB.out; omega) HH.out (table_below HT.out HBB.out hp0)).mono ?_
   rintro e w5 ⟨rfl, hb5⟩
   have HB5 : Hid (Below w.heap.size w w5) := Lib.hid (HBB.out.trans (hb5.mono HBB.out.size))
   go_wp2
   go_ret
   exact ⟨rfl, HB5.out⟩
end Go.Proofs.YtdidopoalmkhlaaDoor.Sha
end
section
namespace Go.Proofs.YtdidopoalmkhlaaDoor
open Go Go.RowKit
def GG (w : World) : Prop := Sha.table w ∧ ∃ m : Int, w.cell? ⟨1, 0, none⟩ = some (.int .i64 m)
theorem gg_below {w w' : World} (h : GG w) (hb : Below w.heap.size w w') : GG w' := by
 obtain ⟨h1, m, hm⟩ := h
 exact ⟨Sha.table_below h1 hb (Sha.table_lt h1), m, (hb.cell (World.block_lt_of_cell? w _ hm)).trans hm⟩
namespace Sha
def tagF (a : Int) (l : List ByteArray) : Option ByteArray :=
 if 0 ≤ a ∧ a < 256 ∧ (tagB (BitVec.ofInt 8 a) l).length ≤ 1099511627776 then some (ofB (sha (tagB (BitVec.ofInt 8 a) l))) else none
theorem Y_int (a : Int) (h0 : 0 ≤ a) (h1 : a < 256) : (.int .u8 a : Value) = Y (BitVec.ofInt 8 a) := by
 rw [Y_def, BitVec.toNat_ofInt]
 congr 1
 omega
end Sha
end Go.Proofs.YtdidopoalmkhlaaDoor
end
section
namespace Go.Proofs.YtdidopoalmkhlaaDoor.Sha
open Go Go.RowKit Go.Proofs.YtdidopoalmkhlaaDoorW.PrintWords Go.Proofs.YtdidopoalmkhlaaDoorW.PrintLast Go.Proofs.YtdidopoalmkhlaaDoorW.PrintMore
set_option linter.unusedVariables false
set_option linter.unusedSimpArgs false
attribute [local go_sem high] Y_cells
attribute [local go_sem] Y_match
def dig (x : BitVec 8) : BitVec 8 := if x.toNat < 10 then 48#8 + x else 87#8 + x
def two (c : UInt8) : List (BitVec 8) := [dig (c.toBitVec >>> 4), dig (c.toBitVec &&& 15#8)]
def hexL (l : List UInt8) : List (BitVec 8) := l.flatMap two
def hexF (s : ByteArray) : Option ByteArray := if s.size ≤ 1099511627776 then some (ofB (hexL s.data.toList)) else none
def digits : ByteArray := ⟨#[48, 49, 50, 51, 52, 53, 54, 55, 56, 57, 97, 98, 99, 100, 101, 102]⟩
theorem dig_at (x : BitVec 8) (h : x.toNat < 16) : digits[x.toNat]? = some (UInt8.ofBitVec (dig x)) := by
 have h2 : ∀ n : Fin 16, digits[n.val]? = some (UInt8.ofBitVec (dig (BitVec.ofNat 8 n.val))) := by decide
 have h3 := h2 ⟨x.toNat, h⟩
 have e : BitVec.ofNat 8 x.toNat = x := by simp
 rw [e] at h3
 exact h3
theorem index_digits (x : BitVec 8) (h : x.toNat < 16) (w : World) : (Instr.index 9 (.string digits) (Y x)).run Tryd.prog w = .ok (Y (dig x)) w := by
 rw [Y_def, run_index_string (P := Tryd.prog) w 9 digits .u8 (x.toNat : Int) und_bytes.2.2]
 have hs : digits.size = 16 := rfl
 have h0 : (0 : Int) ≤ x.toNat ∧ (x.toNat : Int) < digits.size := by rw [hs]; omega
 rw [dif_pos h0]
 have h1 := dig_at x h
 have h2 : digits[(x.toNat : Int).toNat]'(by rw [hs]; omega) = UInt8.ofBitVec (dig x) := by
  have h3 : digits[x.toNat]'(by rw [hs]; omega) = UInt8.ofBitVec (dig x) := by
   rw [ByteArray.getElem?_lt' digits _ (by rw [hs]; omega)] at h1
   exact Option.some.inj h1
  simpa using h3
 rw [h2, Y_def]
 rfl
theorem index_str (s : ByteArray) (i : Nat) (h : i < s.size) (w : World) : (Instr.index 9 (.string s) (.int .i64 (i : Int))).run Tryd.prog w = .ok (Y (s.data.toList[i]'(by simpa using h)).toBitVec) w := by
 rw [run_index_string (P := Tryd.prog) w 9 s .i64 (i : Int) und_bytes.2.2, dif_pos (by omega)]
 rw [← Y_val]
 rfl
theorem y_shr4 (t : TypeId) (x : BitVec 8) : binOp .shr t (Y x) (.int .u64 4) = pure (Y (x >>> 4)) := by
 rw [Y_def, Y_def, binOp_shr]
 unfold Op.shift
 rw [if_neg (by omega)]
 show (pure (Value.int .u8 ((x.toNat : Int).fdiv (2 ^ (min ((4 : Int).toNat) 8)))) : Sem Value) = _
 rw [BitVec.toNat_ushiftRight, Nat.shiftRight_eq_div_pow, Int.fdiv_eq_ediv_of_nonneg _ (by decide)]
 congr 2
theorem y_and15 (t : TypeId) (x : BitVec 8) : binOp .and t (Y x) (.int .u8 15) = pure (Y (x &&& 15#8)) := by
 rw [Y_def, Y_def, binOp_and]
 show (pure (Value.int .u8 (IntKind.u8.wrap ((BitVec.ofInt 8 (x.toNat : Int) &&& BitVec.ofInt 8 15).toNat : Int))) : Sem Value) = _
 have e : BitVec.ofInt 8 (x.toNat : Int) = x := by simp
 have e2 : BitVec.ofInt 8 15 = 15#8 := rfl
 rw [e, e2, IntKind.wrap_u8]
 have := (x &&& 15#8).isLt
 congr 2
 omega
theorem two_length (l : List UInt8) : (hexL l).length = 2 * l.length := by
 induction l with
 | nil => rfl
 | cons a l ih =>
  unfold hexL at ih ⊢
  rw [List.flatMap_cons, List.length_append, ih]
  simp [two]
  omega
set_option maxRecDepth 100000 in
set_option maxHeartbeats 60000000 in
theorem Hex (s : ByteArray) (hs : s.size ≤ 1099511627776) (w : World) : Calls Tryd.prog 26 #[.string s] w fun e w' => e = .returned (.string (ofB (hexL s.data.toList))) ∧ Below w.heap.size w w' := by
 obtain ⟨i0, hi0, hz0, hz1, hz2⟩ := info_u8
 have HI := Lib.hid hi0
 have hmk : ∀ w, (Instr.makeSlice 101 (.int .i64 0) (.int .i64 (2 * (s.size : Int)))).run Tryd.prog w = .ok (.slice (some ⟨w.heap.size, 0, none⟩) 0 (2 * s.size)) (w.alloc (.cells (madeCells #[.int .u8 0] (2 * s.size)) 5)) := fun w => by
  have h := run_make (P := Tryd.prog) w 101 5 i0 (.int .u8 0) und_bytes.1 hi0 hz0 .i64 .i64 0 (2 * (s.size : Int)) (by omega) (by omega) (by rw [hz2]; omega) (by omega)
  have e : (2 * (s.size : Int)).toNat = 2 * s.size := by omega
  rw [e, hz1, Nat.mul_one] at h
  exact h
 have HO0 : Hid ((w.alloc (.cells (madeCells #[.int .u8 0] (2 * s.size)) 5)).ownsRow w.heap.size 5 1 (.slice (some ⟨w.heap.size, 0, none⟩) 0 (2 * s.size)) (2 * 0) ((hexL (s.data.toList.take 0)).map Y)) := Lib.hid (World.ownsRow_made w _ _ (Nat.le_refl _) (by unfold maxLen; omega) (by simp [madeCells]))
 have HB0 : Hid (Below w.heap.size w (w.alloc (.cells (madeCells #[.int .u8 0] (2 * s.size)) 5))) := Lib.hid ((Below.refl _ _).alloc (Nat.le_refl _) _)
 have hw2 : IntKind.i64.wrap (2 * (s.size : Int)) = 2 * (s.size : Int) := IntWalk.i64_in _ (by omega)
 clear hi0
 go_enter Tryd.func26, Tryd.ntmps26
 go_wp2
 go_loopg [3, 11] s.size (fun kq v3 v11 w' => ∃ (j : Nat), v11 = .int .i64 (j : Int) ∧ j + kq = s.size ∧ Hid (w'.ownsRow w.heap.size 5 1 v3 (2 * j) ((hexL (s.data.toList.take j)).map Y)) ∧ Hid (Below w.heap.size w w'))
 case atStart => exact ⟨0, rfl, Nat.zero_add _, HO0, HB0⟩
 case round =>
  clear HO0 HB0 hmk
  obtain ⟨j, rfl, hj, HO, HB⟩ := hrel
  by_cases hjl : j < s.size
  ·
   cases gk with
   | zero => exact absurd hj (by omega)
   | succ k1 =>
   have hjl' : j < s.data.toList.length := by simpa using hjl
   obtain ⟨c, hc⟩ : ∃ c, s.data.toList[j] = c := ⟨_, rfl⟩
   have hix : ∀ w, (Instr.index 9 (.string s) (.int .i64 (j : Int))).run Tryd.prog w = .ok (Y c.toBitVec) w := fun w => by rw [← hc]; exact index_str s j hjl w
   have h1 := fun w => index_digits (c.toBitVec >>> 4) (by rw [BitVec.toNat_ushiftRight, Nat.shiftRight_eq_div_pow]; have := c.toBitVec.isLt; omega) w
   have h2 := fun w => index_digits (c.toBitVec &&& 15#8) (by rw [BitVec.toNat_and]; exact Nat.lt_of_le_of_lt Nat.and_le_right (by decide)) w
   unfold digits at h1 h2
   have h3 := fun t => y_shr4 t c.toBitVec
   have h4 := fun t => y_and15 t c.toBitVec
   have htk : hexL (s.data.toList.take (j + 1)) = hexL (s.data.toList.take j) ++ two c := by
    rw [List.take_succ_eq_append_getElem hjl', hc]
    unfold hexL
    rw [List.flatMap_append]
    simp
   have HTK := Lib.hid htk
   have el : decide ((j : Int) < s.size) = true := decide_eq_true (by omega)
   have wi : IntKind.i64.wrap ((j : Int) + 1) = (j : Int) + 1 := IntWalk.i64_in _ (by omega)
   clear htk hc hjl'
   go_wp2
   go_region_held3 (fun w' => True) (trivial)
    ((refine step_append_lies _ (by rfl) _ _ _ (by rfl) w.heap.size 5 i0 _ 1 1 (by rfl) HI.out hz0 hz1 hz2 rfl (by decide) _ (2 * j) _ (by rfl) ((HO.out.alloc _).drew) ⟨wr.heap.size, 0, none⟩ 2 2 ((two c).map Y) (by rfl) (by rfl) (World.news_of_block (cs := (((two c).map Y)).toArray) (t := 5) (fr := (0, 0)) (heap_alloc_new wr _)) (Y_all _) (by decide) (by unfold maxLen; omega) (by omega) (by have := HB.out.size; simp; omega) (wr.heap.size + 1) (by simp) ?_; intro g2 cap2 w2 ho2 hg2 hat2 hlt2; have HO2 := Lib.hid ho2; have HB2 : Hid (Below w.heap.size w w2) := Lib.hid (((HB.out.alloc HB.out.size _).drew).grown hg2 (by have := HB.out.size; simp; omega) (fun k hk => (HO.out.lt k hk).1)); clear ho2 hg2 hat2))
   all_goals
    go_wp2
   all_goals
    go_roundg k1
    case measure => omega
    case rel => exact ⟨j + 1, congrArg (Value.int .i64) (by omega), by omega, by rw [HTK.out, List.map_append]; exact HO2, HB2⟩
  ·
   obtain rfl : j = s.size := by omega
   have el : decide ((s.size : Int) < s.size) = false := by simp
   have htk : s.data.toList.take s.size = s.data.toList := List.take_of_length_le (by simp)
   rw [htk] at HO
   rcases Nat.eq_zero_or_pos s.size with h0 | h0
   ·
    have hl0 : (hexL s.data.toList) = [] := List.eq_nil_of_length_eq_zero (by rw [two_length]; simp; omega)
    have hcv : ∀ w1 : World, w1.heap = wr.heap → (convert 101 9 u3).run Tryd.prog w1 = .ok (.string (ofB (hexL s.data.toList))) w1 := fun w1 h1 => by
     rw [hl0]
     rcases HO.out.2 with ⟨h2, _⟩ | ⟨g3, cap3, cur3, h2, _, h4, _⟩
     ·
      rw [h2]
      rw [run_convert_bytes_string w1 _ _ _ _ _ _ und_bytes.1 und_bytes.2.1 und_bytes.2.2]
      rfl
     ·
      rw [h2, h0]
      exact run_convert_bytes_back (P := Tryd.prog) w1 101 9 5 ⟨g3, 0, none⟩ cap3 [] und_bytes.1 und_bytes.2.1 und_bytes.2.2 (fun j hj => absurd hj (Nat.not_lt_zero _))
    have hcv2 := hcv wr rfl
    clear hcv hl0 h0
    obtain ⟨a3, c3, hv3⟩ := own_slice' HO.out
    subst hv3
    go_wp2
    go_ret
    exact ⟨rfl, HB.out⟩
   ·
    obtain ⟨g3, cap3, hv3, hb3, hcv3⟩ := string_of_row (by omega) HO.out
    subst hv3
    have hcv := hcv3 wr rfl
    clear hcv3
    go_wp2
    go_ret
    exact ⟨rfl, HB.out⟩
def hb (c : UInt8) : Bool := (decide (48 ≤ c.toNat) && decide (c.toNat ≤ 57)) || (decide (97 ≤ c.toNat) && decide (c.toNat ≤ 102))
def hv (c : UInt8) : BitVec 8 := if 48 ≤ c.toNat ∧ c.toNat ≤ 57 then BitVec.ofNat 8 (c.toNat - 48) else if 97 ≤ c.toNat ∧ c.toNat ≤ 102 then BitVec.ofNat 8 (c.toNat - 87) else 0#8
def unhexL : List UInt8 → Option (List (BitVec 8))
 | [] => some []
 | [_] => none
 | a :: b :: r => if hb a && hb b then (unhexL r).map ((hv a <<< 4 ||| hv b) :: ·) else none
def unhexR : Option (List (BitVec 8)) → ByteArray × Int
 | some l => (ofB l, 0)
 | none => (⟨#[]⟩, 3)
def unhexF (s : ByteArray) : Option (ByteArray × Int) := if s.size ≤ 1099511627776 then some (unhexR (unhexL s.data.toList)) else none
theorem y_shl4 (t : TypeId) (x : BitVec 8) : binOp .shl t (Y x) (.int .u64 4) = pure (Y (x <<< 4)) := by
 rw [Y_def, Y_def, binOp_shl]
 unfold Op.shift
 rw [if_neg (by omega)]
 show (pure (Value.int .u8 (IntKind.u8.wrap ((x.toNat : Int) * 2 ^ (min ((4 : Int).toNat) 8)))) : Sem Value) = _
 rw [IntKind.wrap_u8, BitVec.toNat_shiftLeft, Nat.shiftLeft_eq]
 congr 2
theorem y_or (t : TypeId) (x y : BitVec 8) : binOp .or t (Y x) (Y y) = pure (Y (x ||| y)) := by
 rw [Y_def, Y_def, Y_def, binOp_or]
 show (pure (Value.int .u8 (IntKind.u8.wrap ((BitVec.ofInt 8 (x.toNat : Int) ||| BitVec.ofInt 8 (y.toNat : Int)).toNat : Int))) : Sem Value) = _
 have e : ∀ x : BitVec 8, BitVec.ofInt 8 (x.toNat : Int) = x := fun x => by simp
 rw [e, e, IntKind.wrap_u8]
 have := (x ||| y).isLt
 congr 2
 omega
set_option maxRecDepth 100000 in
set_option maxHeartbeats 4000000 in
theorem half (c : UInt8) (w : World) : Calls Tryd.prog 89 #[.int .u8 (c.toNat : Int)] w fun e w' => e = .returned (.tuple #[Y (hv c), .bool (hb c)]) ∧ w' = w := by
 obtain ⟨n, hn⟩ : ∃ n, c.toNat = n := ⟨_, rfl⟩
 have hlt : n < 256 := by rw [← hn]; exact c.toNat_lt
 unfold hv hb
 rw [hn]
 have HN := Lib.hid hn
 clear hn
 by_cases h1 : 48 ≤ n
 ·
  by_cases h2 : n ≤ 57
  ·
   have e1 : decide (48 ≤ n) = true := decide_eq_true h1
   have e2 : decide (n ≤ 57) = true := decide_eq_true h2
   have hw : IntKind.u8.wrap ((n : Int) - 48) = (n : Int) - 48 := by rw [IntKind.wrap_u8]; omega
   have HY : Hid ((.int .u8 ((n : Int) - 48) : Value) = Y (BitVec.ofNat 8 (n - 48))) := Lib.hid (by rw [Y_def, BitVec.toNat_ofNat]; congr 1; omega)
   rw [if_pos ⟨h1, h2⟩]
   go_enter Tryd.func89, Tryd.ntmps89
   go_wp2
   go_ret2
   exact ⟨by rw [← HY.out]; simp [h1, h2], rfl⟩
  ·
   have e2 : decide (n ≤ 57) = false := decide_eq_false h2
   by_cases h3 : 97 ≤ n
   ·
    by_cases h4 : n ≤ 102
    ·
     have hw : IntKind.u8.wrap ((n : Int) - 97) = (n : Int) - 97 := by rw [IntKind.wrap_u8]; omega
     have hw2 : IntKind.u8.wrap ((n : Int) - 97 + 10) = (n : Int) - 97 + 10 := by rw [IntKind.wrap_u8]; omega
     have HY : Hid ((.int .u8 ((n : Int) - 97 + 10) : Value) = Y (BitVec.ofNat 8 (n - 87))) := Lib.hid (by rw [Y_def, BitVec.toNat_ofNat]; congr 1; omega)
     rw [if_neg (by omega), if_pos ⟨h3, h4⟩]
     go_enter Tryd.func89, Tryd.ntmps89
     go_wp2
     go_ret2
     exact ⟨by rw [← HY.out]; simp [h1, h2, h3, h4], rfl⟩
    ·
     have HY : Hid ((.int .u8 0 : Value) = Y 0#8) := Lib.hid Y0
     rw [if_neg (by omega), if_neg (by omega)]
     go_enter Tryd.func89, Tryd.ntmps89
     go_wp2
     go_ret2
     exact ⟨by rw [← HY.out]; simp [h1, h2, h3, h4], rfl⟩
   ·
    have HY : Hid ((.int .u8 0 : Value) = Y 0#8) := Lib.hid Y0
    rw [if_neg (by omega), if_neg (by omega)]
    go_enter Tryd.func89, Tryd.ntmps89
    go_wp2
    go_ret2
    exact ⟨by rw [← HY.out]; simp [h1, h2, h3], rfl⟩
 ·
  have HY : Hid ((.int .u8 0 : Value) = Y 0#8) := Lib.hid Y0
  have h3 : ¬ 97 ≤ n := by omega
  rw [if_neg (by omega), if_neg (by omega)]
  go_enter Tryd.func89, Tryd.ntmps89
  go_wp2
  go_ret2
  exact ⟨by rw [← HY.out]; simp [h1, h3], rfl⟩
theorem unhexL_odd : ∀ (l : List UInt8), l.length % 2 = 1 → unhexL l = none
 | [], h => by simp at h
 | [_], _ => rfl
 | a :: b :: r, h => by
  have h2 : r.length % 2 = 1 := by simp at h; omega
  rw [unhexL, unhexL_odd r h2]
  simp
theorem index_str' (s : ByteArray) (i : Nat) (h : i < s.size) (w : World) : (Instr.index 9 (.string s) (.int .i64 (i : Int))).run Tryd.prog w = .ok (.int .u8 ((s.data.toList[i]'(by simpa using h)).toNat : Int)) w := by
 rw [run_index_string (P := Tryd.prog) w 9 s .i64 (i : Int) und_bytes.2.2, dif_pos (by omega)]
 rfl
set_option maxRecDepth 100000 in
set_option maxHeartbeats 60000000 in
theorem Unhex (s : ByteArray) (hs : s.size ≤ 1099511627776) (w : World) : Calls Tryd.prog 75 #[.string s] w fun e w' => e = .returned (.tuple #[.string (unhexR (unhexL s.data.toList)).1, .int .i64 (unhexR (unhexL s.data.toList)).2]) ∧ Below w.heap.size w w' := by
 obtain ⟨i0, hi0, hz0, hz1, hz2⟩ := info_u8
 have HI := Lib.hid hi0
 have hsl : s.data.toList.length = s.size := by simp
 by_cases hodd : s.size % 2 = 1
 ·
  have HU := Lib.hid (unhexL_odd s.data.toList (by omega))
  clear hi0 hsl
  go_enter Tryd.func75, Tryd.ntmps75
  go_wp2
  go_ret2
  refine ⟨?_, Below.refl _ _⟩
  rw [HU.out]
  rfl
 ·
  obtain ⟨N, hN⟩ : ∃ N, s.size = 2 * N := ⟨s.size / 2, by omega⟩
  have hmk : ∀ w, (Instr.makeSlice 101 (.int .i64 0) (.int .i64 ((s.size : Int) / 2))).run Tryd.prog w = .ok (.slice (some ⟨w.heap.size, 0, none⟩) 0 N) (w.alloc (.cells (madeCells #[.int .u8 0] N) 5)) := fun w => by
   have h := run_make (P := Tryd.prog) w 101 5 i0 (.int .u8 0) und_bytes.1 hi0 hz0 .i64 .i64 0 ((s.size : Int) / 2) (by omega) (by omega) (by rw [hz2]; omega) (by omega)
   have e : ((s.size : Int) / 2).toNat = N := by omega
   rw [e, hz1, Nat.mul_one] at h
   exact h
  have HO0 : Hid ((w.alloc (.cells (madeCells #[.int .u8 0] N) 5)).ownsRow w.heap.size 5 1 (.slice (some ⟨w.heap.size, 0, none⟩) 0 N) 0 (([] : List (BitVec 8)).map Y)) := Lib.hid (World.ownsRow_made w _ _ (Nat.le_refl _) (by unfold maxLen; omega) (by simp [madeCells]))
  have HB0 : Hid (Below w.heap.size w (w.alloc (.cells (madeCells #[.int .u8 0] N) 5))) := Lib.hid ((Below.refl _ _).alloc (Nat.le_refl _) _)
  have hpar : ((s.size : Int) % 2 == 1) = false := by simpa using (show ¬ (s.size : Int) % 2 = 1 by omega)
  have HN := Lib.hid (And.intro hN hsl)
  clear hi0 hN hsl
  go_enter Tryd.func75, Tryd.ntmps75
  go_wp2
  go_loopg [4, 5] N (fun kq v4 v5 w' => ∃ (m j : Nat) (acc : List (BitVec 8)), v5 = .int .i64 (m : Int) ∧ m = 2 * j ∧ j + kq = N ∧ Hid (unhexL s.data.toList = (unhexL (s.data.toList.drop m)).map (acc ++ ·)) ∧ Hid (w'.ownsRow w.heap.size 5 1 v4 j (acc.map Y)) ∧ Hid (Below w.heap.size w w'))
  case atStart => exact ⟨0, 0, [], rfl, rfl, Nat.zero_add _, Lib.hid (by simp), HO0, HB0⟩
  case round =>
   clear HO0 HB0 hmk
   obtain ⟨m, j, acc, rfl, hm, hj, HU, HO, HB⟩ := hrel
   by_cases hjl : j < N
   ·
    cases gk with
    | zero => exact absurd hj (by omega)
    | succ k1 =>
    have hm1 : m + 1 < s.size := by have := HN.out; omega
    have hl1 : m + 1 < s.data.toList.length := by have := HN.out; omega
    obtain ⟨a, ha⟩ : ∃ a, s.data.toList[m]'(by omega) = a := ⟨_, rfl⟩
    obtain ⟨b, hb'⟩ : ∃ b, s.data.toList[m + 1]'hl1 = b := ⟨_, rfl⟩
    have hi1 : ∀ w, (Instr.index 9 (.string s) (.int .i64 (m : Int))).run Tryd.prog w = .ok (.int .u8 (a.toNat : Int)) w := fun w => by rw [← ha]; exact index_str' s m (by omega) w
    have hi2 : ∀ w, (Instr.index 9 (.string s) (.int .i64 ((m : Int) + 1))).run Tryd.prog w = .ok (.int .u8 (b.toNat : Int)) w := fun w => by rw [← hb']; exact index_str' s (m + 1) hm1 w
    have hdr : s.data.toList.drop m = a :: b :: s.data.toList.drop (m + 2) := by
     rw [List.drop_eq_getElem_cons (show m < s.data.toList.length by omega), List.drop_eq_getElem_cons hl1, ha, hb']
    have HU2 := Lib.hid HU.out
    rw [hdr, unhexL] at HU2
    have HX := Lib.hid (And.intro hm hj)
    have hsh := fun t => y_shl4 t (hv a)
    have hor := fun t => y_or t (hv a <<< 4) (hv b)
    have el : decide ((m : Int) < s.size) = true := decide_eq_true (by omega)
    have w1 : IntKind.i64.wrap ((m : Int) + 1) = (m : Int) + 1 := IntWalk.i64_in _ (by omega)
    have w2 : IntKind.i64.wrap ((m : Int) + 2) = (m : Int) + 2 := IntWalk.i64_in _ (by omega)
    clear hdr ha hb' hl1 hm hj HU
    by_cases h1 : hb a = true
    ·
     by_cases h2 : hb b = true
     ·
      have HU3 : Hid (unhexL s.data.toList = (unhexL (s.data.toList.drop (m + 2))).map ((acc ++ [hv a <<< 4 ||| hv b]) ++ ·)) := Lib.hid (by
       rw [HU2.out, h1, h2]
       simp only [Bool.and_self, if_true, Option.map_map]
       congr 1
       funext x
       simp)
      go_wp2_with (first
       | (go_at_call 89; with_reducible refine (half a _).mono ?_; rintro e w' ⟨rfl, h'⟩; rw [h']; clear h' w')
       | (go_at_call 89; with_reducible refine (half b _).mono ?_; rintro e w' ⟨rfl, h'⟩; rw [h']; clear h' w')
       | (at_builtin; refine Stop ?_))
      refine Lib.hid ?_
      refine wpList_append_new rfl _ _ rfl w.heap.size _ j acc rfl (HO.out.alloc _) wr.heap.size 1 1 [hv a <<< 4 ||| hv b] rfl rfl (blk_one wr _ _ rfl) (by have := HN.out; omega) (by have := HB.out.size; simp; omega) ?_
      intro v3 w3 ho3 hg3
      have HB3 : Hid (Below w.heap.size w w3) := Lib.hid ((HB.out.alloc HB.out.size _).grown hg3 (by have := HB.out.size; simp; omega) (fun k hk => (HO.out.lt k hk).1))
      have HO3 := Lib.hid ho3
      clear ho3 hg3
      go_wp2
      go_roundg k1
      case measure => omega
      case rel => exact ⟨m + 2, j + 1, _, congrArg (Value.int .i64) (by omega), by have := HX.out; omega, by have := HX.out; omega, HU3, HO3, HB3⟩
     ·
      have h2' : hb b = false := by simpa using h2
      have HN3 : Hid (unhexL s.data.toList = none) := Lib.hid (by rw [HU2.out, h1, h2']; simp)
      clear h2
      go_wp2_with (first
       | (go_at_call 89; with_reducible refine (half a _).mono ?_; rintro e w' ⟨rfl, h'⟩; rw [h']; clear h' w')
       | (go_at_call 89; with_reducible refine (half b _).mono ?_; rintro e w' ⟨rfl, h'⟩; rw [h']; clear h' w'))
      go_ret2
      refine ⟨?_, HB.out⟩
      rw [HN3.out]
      rfl
    ·
     have h1' : hb a = false := by simpa using h1
     have HN3 : Hid (unhexL s.data.toList = none) := Lib.hid (by rw [HU2.out, h1']; simp)
     clear h1
     go_wp2_with (first
      | (go_at_call 89; with_reducible refine (half a _).mono ?_; rintro e w' ⟨rfl, h'⟩; rw [h']; clear h' w')
      | (go_at_call 89; with_reducible refine (half b _).mono ?_; rintro e w' ⟨rfl, h'⟩; rw [h']; clear h' w'))
     go_ret2
     refine ⟨?_, HB.out⟩
     rw [HN3.out]
     rfl
   ·
    have hjN : j = N := by omega
    have hms : m = s.size := by have := HN.out; omega
    have hdr : s.data.toList.drop m = [] := List.drop_of_length_le (by have := HN.out; omega)
    have HF : Hid (unhexL s.data.toList = some acc) := Lib.hid (by rw [HU.out, hdr]; simp [unhexL])
    have el : decide (m < s.size) = false := decide_eq_false (by omega)
    have el2 : ¬ m < s.size := by omega
    have hacc := length_of_own HO.out
    have hcv : ∃ a3 c3, u4 = .slice a3 j c3 ∧ (convert 101 9 (.slice a3 j c3)).run Tryd.prog wr = .ok (.string (ofB acc)) wr := by
     rcases Nat.eq_zero_or_pos j with h0 | h0
     ·
      have hl0 : acc = [] := List.eq_nil_of_length_eq_zero (by omega)
      subst hl0
      rcases HO.out.2 with ⟨h2, _⟩ | ⟨g3, cap3, cur3, h2, _, h4, _⟩
      ·
       refine ⟨none, 0, by rw [h2, h0], ?_⟩
       rw [h0, run_convert_bytes_string wr _ _ _ _ _ _ und_bytes.1 und_bytes.2.1 und_bytes.2.2]
       rfl
      ·
       refine ⟨some ⟨g3, 0, none⟩, cap3, h2, ?_⟩
       rw [h0]
       exact run_convert_bytes_back (P := Tryd.prog) wr 101 9 5 ⟨g3, 0, none⟩ cap3 [] und_bytes.1 und_bytes.2.1 und_bytes.2.2 (fun j hj => absurd hj (Nat.not_lt_zero _))
     ·
      obtain ⟨g3, cap3, hv3, _, hcv3⟩ := string_of_row h0 HO.out
      exact ⟨_, _, hv3, hcv3 wr rfl⟩
    obtain ⟨a3, c3, hv3, hcv3⟩ := hcv
    subst hv3
    clear hdr hms hm hjN hacc HU hj hjl
    go_wp2
    go_ret2
    refine ⟨?_, HB.out⟩
    rw [HF.out]
    rfl
end Go.Proofs.YtdidopoalmkhlaaDoor.Sha
end
