/-
 25 texts,one behind the other;each says what it proves. Conditions: as each text says.
-/
import Derived.Test.YtabbklpalbikdaaGreatDoorProg
import Derived.Test.YtabbklpalbikdaaGreatDoorM01
import Derived.KernelRfl
import Derived.Maps.Views
import Derived.Maps.OwnSet
import Derived.Laws.BitsAllLaws
import Derived.Laws.Closers25b
import Derived.Laws.ResultCell
import Derived.DeepKeys
import Derived.Laws.BitsLemmas
import Derived.Laws.Bits64
set_option linter.unusedVariables false
set_option linter.unusedSimpArgs false
section
namespace Go.Proofs.YtabbklpalbikdaaGreatDoor
open Go.Pt
theorem kk {p : Prop} (h : p := by kernel_rfl) : p := h
instance : TyD Tryz.prog 2 (.int .i64) := ⟨kk⟩
instance : TyS Tryz.prog 2 1 8 := ⟨kk⟩
instance : TyZ Tryz.prog 2 (.int .i64 0) := ⟨kk⟩
instance : TyC Tryz.prog 2 := ⟨kk,kk,kk⟩
instance : TyD Tryz.prog 3 (.int .i64) := ⟨kk⟩
instance : TyS Tryz.prog 3 1 8 := ⟨kk⟩
instance : TyZ Tryz.prog 3 (.int .i64 0) := ⟨kk⟩
instance : TyC Tryz.prog 3 := ⟨kk,kk,kk⟩
instance : TyD Tryz.prog 4 (.bool) := ⟨kk⟩
instance : TyS Tryz.prog 4 1 1 := ⟨kk⟩
instance : TyZ Tryz.prog 4 (.bool false) := ⟨kk⟩
instance : TyC Tryz.prog 4 := ⟨kk,kk,kk⟩
instance : TyD Tryz.prog 5 (.int .u8) := ⟨kk⟩
instance : TyS Tryz.prog 5 1 1 := ⟨kk⟩
instance : TyZ Tryz.prog 5 (.int .u8 0) := ⟨kk⟩
instance : TyC Tryz.prog 5 := ⟨kk,kk,kk⟩
instance : TyD Tryz.prog 6 (.int .u8) := ⟨kk⟩
instance : TyS Tryz.prog 6 1 1 := ⟨kk⟩
instance : TyZ Tryz.prog 6 (.int .u8 0) := ⟨kk⟩
instance : TyC Tryz.prog 6 := ⟨kk,kk,kk⟩
instance : TyS Tryz.prog 7 4 24 := ⟨kk⟩
instance : TyZ Tryz.prog 7 (.agg #[.int .i64 0,.int .i64 0,.bool false,.int .u8 0]) := ⟨kk⟩
instance : TyA Tryz.prog 7 4 := ⟨kk,kk⟩
instance : TyP Tryz.prog 7 [(0,1),(1,1),(2,1),(3,1)] [.int .i64 0,.int .i64 0,.bool false,.int .u8 0] := ⟨kk⟩
instance : Fld Tryz.prog 7 0 0 2 := ⟨kk⟩
instance : Fld Tryz.prog 7 1 1 3 := ⟨kk⟩
instance : Fld Tryz.prog 7 2 2 4 := ⟨kk⟩
instance : Fld Tryz.prog 7 3 3 6 := ⟨kk⟩
instance : TyS Tryz.prog 8 4 24 := ⟨kk⟩
instance : TyZ Tryz.prog 8 (.agg #[.int .i64 0,.int .i64 0,.bool false,.int .u8 0]) := ⟨kk⟩
instance : TyA Tryz.prog 8 4 := ⟨kk,kk⟩
instance : TyP Tryz.prog 8 [(0,1),(1,1),(2,1),(3,1)] [.int .i64 0,.int .i64 0,.bool false,.int .u8 0] := ⟨kk⟩
instance : Fld Tryz.prog 8 0 0 2 := ⟨kk⟩
instance : Fld Tryz.prog 8 1 1 3 := ⟨kk⟩
instance : Fld Tryz.prog 8 2 2 4 := ⟨kk⟩
instance : Fld Tryz.prog 8 3 3 6 := ⟨kk⟩
instance : TyD Tryz.prog 9 (.string) := ⟨kk⟩
instance : TyS Tryz.prog 9 1 16 := ⟨kk⟩
instance : TyZ Tryz.prog 9 (.string ⟨#[]⟩) := ⟨kk⟩
instance : TyC Tryz.prog 9 := ⟨kk,kk,kk⟩
instance : TyD Tryz.prog 10 (.string) := ⟨kk⟩
instance : TyS Tryz.prog 10 1 16 := ⟨kk⟩
instance : TyZ Tryz.prog 10 (.string ⟨#[]⟩) := ⟨kk⟩
instance : TyC Tryz.prog 10 := ⟨kk,kk,kk⟩
instance : TyD Tryz.prog 11 (.string) := ⟨kk⟩
instance : TyS Tryz.prog 11 1 16 := ⟨kk⟩
instance : TyZ Tryz.prog 11 (.string ⟨#[]⟩) := ⟨kk⟩
instance : TyC Tryz.prog 11 := ⟨kk,kk,kk⟩
instance : TyD Tryz.prog 12 (.int .u64) := ⟨kk⟩
instance : TyS Tryz.prog 12 1 8 := ⟨kk⟩
instance : TyZ Tryz.prog 12 (.int .u64 0) := ⟨kk⟩
instance : TyC Tryz.prog 12 := ⟨kk,kk,kk⟩
instance : TyS Tryz.prog 13 2 24 := ⟨kk⟩
instance : TyZ Tryz.prog 13 (.agg #[.string ⟨#[]⟩,.int .u64 0]) := ⟨kk⟩
instance : TyA Tryz.prog 13 2 := ⟨kk,kk⟩
instance : TyP Tryz.prog 13 [(0,1),(1,1)] [.string ⟨#[]⟩,.int .u64 0] := ⟨kk⟩
instance : Fld Tryz.prog 13 0 0 9 := ⟨kk⟩
instance : Fld Tryz.prog 13 1 1 12 := ⟨kk⟩
instance : TyS Tryz.prog 14 2 24 := ⟨kk⟩
instance : TyZ Tryz.prog 14 (.agg #[.string ⟨#[]⟩,.int .u64 0]) := ⟨kk⟩
instance : TyA Tryz.prog 14 2 := ⟨kk,kk⟩
instance : TyP Tryz.prog 14 [(0,1),(1,1)] [.string ⟨#[]⟩,.int .u64 0] := ⟨kk⟩
instance : Fld Tryz.prog 14 0 0 9 := ⟨kk⟩
instance : Fld Tryz.prog 14 1 1 12 := ⟨kk⟩
instance : TyD Tryz.prog 15 (.pointer 341) := ⟨kk⟩
instance : TyS Tryz.prog 15 1 8 := ⟨kk⟩
instance : TyZ Tryz.prog 15 (.pointer none) := ⟨kk⟩
instance : TyC Tryz.prog 15 := ⟨kk,kk,kk⟩
instance : TyD Tryz.prog 16 (.pointer 344) := ⟨kk⟩
instance : TyS Tryz.prog 16 1 8 := ⟨kk⟩
instance : TyZ Tryz.prog 16 (.pointer none) := ⟨kk⟩
instance : TyC Tryz.prog 16 := ⟨kk,kk,kk⟩
instance : TyD Tryz.prog 17 (.pointer 352) := ⟨kk⟩
instance : TyS Tryz.prog 17 1 8 := ⟨kk⟩
instance : TyZ Tryz.prog 17 (.pointer none) := ⟨kk⟩
instance : TyC Tryz.prog 17 := ⟨kk,kk,kk⟩
instance : TyS Tryz.prog 18 1 8 := ⟨kk⟩
instance : TyZ Tryz.prog 18 (.agg #[.pointer none]) := ⟨kk⟩
instance : TyA Tryz.prog 18 1 := ⟨kk,kk⟩
instance : TyP Tryz.prog 18 [(0,1)] [.pointer none] := ⟨kk⟩
instance : Fld Tryz.prog 18 0 0 17 := ⟨kk⟩
instance : TyS Tryz.prog 19 1 8 := ⟨kk⟩
instance : TyZ Tryz.prog 19 (.agg #[.pointer none]) := ⟨kk⟩
instance : TyA Tryz.prog 19 1 := ⟨kk,kk⟩
instance : TyP Tryz.prog 19 [(0,1)] [.pointer none] := ⟨kk⟩
instance : Fld Tryz.prog 19 0 0 17 := ⟨kk⟩
instance : TyD Tryz.prog 21 (.int .i32) := ⟨kk⟩
instance : TyS Tryz.prog 21 1 4 := ⟨kk⟩
instance : TyZ Tryz.prog 21 (.int .i32 0) := ⟨kk⟩
instance : TyC Tryz.prog 21 := ⟨kk,kk,kk⟩
instance : TyD Tryz.prog 22 (.slice 3) := ⟨kk⟩
instance : TyS Tryz.prog 22 1 24 := ⟨kk⟩
instance : TyZ Tryz.prog 22 (.slice none 0 0) := ⟨kk⟩
instance : TyC Tryz.prog 22 := ⟨kk,kk,kk⟩
instance : TyD Tryz.prog 24 (.slice 30) := ⟨kk⟩
instance : TyS Tryz.prog 24 1 24 := ⟨kk⟩
instance : TyZ Tryz.prog 24 (.slice none 0 0) := ⟨kk⟩
instance : TyC Tryz.prog 24 := ⟨kk,kk,kk⟩
instance : TyD Tryz.prog 25 (.int .u32) := ⟨kk⟩
instance : TyS Tryz.prog 25 1 4 := ⟨kk⟩
instance : TyZ Tryz.prog 25 (.int .u32 0) := ⟨kk⟩
instance : TyC Tryz.prog 25 := ⟨kk,kk,kk⟩
instance : TyD Tryz.prog 26 (.slice 25) := ⟨kk⟩
instance : TyS Tryz.prog 26 1 24 := ⟨kk⟩
instance : TyZ Tryz.prog 26 (.slice none 0 0) := ⟨kk⟩
instance : TyC Tryz.prog 26 := ⟨kk,kk,kk⟩
instance : TyD Tryz.prog 27 (.slice 5) := ⟨kk⟩
instance : TyS Tryz.prog 27 1 24 := ⟨kk⟩
instance : TyZ Tryz.prog 27 (.slice none 0 0) := ⟨kk⟩
instance : TyC Tryz.prog 27 := ⟨kk,kk,kk⟩
instance : TyD Tryz.prog 28 (.slice 124) := ⟨kk⟩
instance : TyS Tryz.prog 28 1 24 := ⟨kk⟩
instance : TyZ Tryz.prog 28 (.slice none 0 0) := ⟨kk⟩
instance : TyC Tryz.prog 28 := ⟨kk,kk,kk⟩
instance : TyS Tryz.prog 29 4 80 := ⟨kk⟩
instance : TyZ Tryz.prog 29 (.agg #[.slice none 0 0,.slice none 0 0,.int .i64 0,.slice none 0 0]) := ⟨kk⟩
instance : TyA Tryz.prog 29 4 := ⟨kk,kk⟩
instance : TyP Tryz.prog 29 [(0,1),(1,1),(2,1),(3,1)] [.slice none 0 0,.slice none 0 0,.int .i64 0,.slice none 0 0] := ⟨kk⟩
instance : Fld Tryz.prog 29 0 0 26 := ⟨kk⟩
instance : Fld Tryz.prog 29 1 1 27 := ⟨kk⟩
instance : Fld Tryz.prog 29 2 2 3 := ⟨kk⟩
instance : Fld Tryz.prog 29 3 3 28 := ⟨kk⟩
instance : TyS Tryz.prog 30 4 80 := ⟨kk⟩
instance : TyZ Tryz.prog 30 (.agg #[.slice none 0 0,.slice none 0 0,.int .i64 0,.slice none 0 0]) := ⟨kk⟩
instance : TyA Tryz.prog 30 4 := ⟨kk,kk⟩
instance : TyP Tryz.prog 30 [(0,1),(1,1),(2,1),(3,1)] [.slice none 0 0,.slice none 0 0,.int .i64 0,.slice none 0 0] := ⟨kk⟩
instance : Fld Tryz.prog 30 0 0 26 := ⟨kk⟩
instance : Fld Tryz.prog 30 1 1 27 := ⟨kk⟩
instance : Fld Tryz.prog 30 2 2 3 := ⟨kk⟩
instance : Fld Tryz.prog 30 3 3 28 := ⟨kk⟩
instance : TyD Tryz.prog 31 (.pointer 39) := ⟨kk⟩
instance : TyS Tryz.prog 31 1 8 := ⟨kk⟩
instance : TyZ Tryz.prog 31 (.pointer none) := ⟨kk⟩
instance : TyC Tryz.prog 31 := ⟨kk,kk,kk⟩
instance : TyD Tryz.prog 33 (.array 3 3) := ⟨kk⟩
instance : TyS Tryz.prog 33 3 24 := ⟨kk⟩
instance : TyZ Tryz.prog 33 (.agg #[.int .i64 0,.int .i64 0,.int .i64 0]) := ⟨kk⟩
instance : TyA Tryz.prog 33 3 := ⟨kk,kk⟩
instance : TyS Tryz.prog 34 3 24 := ⟨kk⟩
instance : TyZ Tryz.prog 34 (.agg #[.int .i64 0,.int .i64 0,.int .i64 0]) := ⟨kk⟩
instance : TyA Tryz.prog 34 3 := ⟨kk,kk⟩
instance : TyP Tryz.prog 34 [(0,1),(1,1),(2,1)] [.int .i64 0,.int .i64 0,.int .i64 0] := ⟨kk⟩
instance : Fld Tryz.prog 34 0 0 3 := ⟨kk⟩
instance : Fld Tryz.prog 34 1 1 3 := ⟨kk⟩
instance : Fld Tryz.prog 34 2 2 3 := ⟨kk⟩
instance : TyS Tryz.prog 35 3 24 := ⟨kk⟩
instance : TyZ Tryz.prog 35 (.agg #[.int .i64 0,.int .i64 0,.int .i64 0]) := ⟨kk⟩
instance : TyA Tryz.prog 35 3 := ⟨kk,kk⟩
instance : TyP Tryz.prog 35 [(0,1),(1,1),(2,1)] [.int .i64 0,.int .i64 0,.int .i64 0] := ⟨kk⟩
instance : Fld Tryz.prog 35 0 0 3 := ⟨kk⟩
instance : Fld Tryz.prog 35 1 1 3 := ⟨kk⟩
instance : Fld Tryz.prog 35 2 2 3 := ⟨kk⟩
instance : TyD Tryz.prog 36 (.pointer 130) := ⟨kk⟩
instance : TyS Tryz.prog 36 1 8 := ⟨kk⟩
instance : TyZ Tryz.prog 36 (.pointer none) := ⟨kk⟩
instance : TyC Tryz.prog 36 := ⟨kk,kk,kk⟩
instance : TyD Tryz.prog 37 (.pointer 91) := ⟨kk⟩
instance : TyS Tryz.prog 37 1 8 := ⟨kk⟩
instance : TyZ Tryz.prog 37 (.pointer none) := ⟨kk⟩
instance : TyC Tryz.prog 37 := ⟨kk,kk,kk⟩
instance : TyS Tryz.prog 38 2 16 := ⟨kk⟩
instance : TyZ Tryz.prog 38 (.agg #[.pointer none,.pointer none]) := ⟨kk⟩
instance : TyA Tryz.prog 38 2 := ⟨kk,kk⟩
instance : TyP Tryz.prog 38 [(0,1),(1,1)] [.pointer none,.pointer none] := ⟨kk⟩
instance : Fld Tryz.prog 38 0 0 36 := ⟨kk⟩
instance : Fld Tryz.prog 38 1 1 37 := ⟨kk⟩
instance : TyS Tryz.prog 39 2 16 := ⟨kk⟩
instance : TyZ Tryz.prog 39 (.agg #[.pointer none,.pointer none]) := ⟨kk⟩
instance : TyA Tryz.prog 39 2 := ⟨kk,kk⟩
instance : TyP Tryz.prog 39 [(0,1),(1,1)] [.pointer none,.pointer none] := ⟨kk⟩
instance : Fld Tryz.prog 39 0 0 36 := ⟨kk⟩
instance : Fld Tryz.prog 39 1 1 37 := ⟨kk⟩
instance : TyD Tryz.prog 42 (.array 32 25) := ⟨kk⟩
instance : TyS Tryz.prog 42 32 128 := ⟨kk⟩
instance : TyZ Tryz.prog 42 (.agg #[.int .u32 0,.int .u32 0,.int .u32 0,.int .u32 0,.int .u32 0,.int .u32 0,.int .u32 0,.int .u32 0,.int .u32 0,.int .u32 0,.int .u32 0,.int .u32 0,.int .u32 0,.int .u32 0,.int .u32 0,.int .u32 0,.int .u32 0,.int .u32 0,.int .u32 0,.int .u32 0,.int .u32 0,.int .u32 0,.int .u32 0,.int .u32 0,.int .u32 0,.int .u32 0,.int .u32 0,.int .u32 0,.int .u32 0,.int .u32 0,.int .u32 0,.int .u32 0]) := ⟨kk⟩
instance : TyA Tryz.prog 42 32 := ⟨kk,kk⟩
instance : TyS Tryz.prog 43 35 144 := ⟨kk⟩
instance : TyZ Tryz.prog 43 (.agg #[.int .i64 0,.int .u32 0,.int .u32 0,.int .u32 0,.int .u32 0,.int .u32 0,.int .u32 0,.int .u32 0,.int .u32 0,.int .u32 0,.int .u32 0,.int .u32 0,.int .u32 0,.int .u32 0,.int .u32 0,.int .u32 0,.int .u32 0,.int .u32 0,.int .u32 0,.int .u32 0,.int .u32 0,.int .u32 0,.int .u32 0,.int .u32 0,.int .u32 0,.int .u32 0,.int .u32 0,.int .u32 0,.int .u32 0,.int .u32 0,.int .u32 0,.int .u32 0,.int .u32 0,.int .u32 0,.int .u32 0]) := ⟨kk⟩
instance : TyA Tryz.prog 43 35 := ⟨kk,kk⟩
instance : TyP Tryz.prog 43 [(0,1),(1,1),(2,1),(3,32)] [.int .i64 0,.int .u32 0,.int .u32 0,.int .u32 0,.int .u32 0,.int .u32 0,.int .u32 0,.int .u32 0,.int .u32 0,.int .u32 0,.int .u32 0,.int .u32 0,.int .u32 0,.int .u32 0,.int .u32 0,.int .u32 0,.int .u32 0,.int .u32 0,.int .u32 0,.int .u32 0,.int .u32 0,.int .u32 0,.int .u32 0,.int .u32 0,.int .u32 0,.int .u32 0,.int .u32 0,.int .u32 0,.int .u32 0,.int .u32 0,.int .u32 0,.int .u32 0,.int .u32 0,.int .u32 0,.int .u32 0] := ⟨kk⟩
instance : Fld Tryz.prog 43 0 0 3 := ⟨kk⟩
instance : Fld Tryz.prog 43 1 1 25 := ⟨kk⟩
instance : Fld Tryz.prog 43 2 2 25 := ⟨kk⟩
instance : Fld Tryz.prog 43 3 3 42 := ⟨kk⟩
instance : TyS Tryz.prog 44 35 144 := ⟨kk⟩
instance : TyZ Tryz.prog 44 (.agg #[.int .i64 0,.int .u32 0,.int .u32 0,.int .u32 0,.int .u32 0,.int .u32 0,.int .u32 0,.int .u32 0,.int .u32 0,.int .u32 0,.int .u32 0,.int .u32 0,.int .u32 0,.int .u32 0,.int .u32 0,.int .u32 0,.int .u32 0,.int .u32 0,.int .u32 0,.int .u32 0,.int .u32 0,.int .u32 0,.int .u32 0,.int .u32 0,.int .u32 0,.int .u32 0,.int .u32 0,.int .u32 0,.int .u32 0,.int .u32 0,.int .u32 0,.int .u32 0,.int .u32 0,.int .u32 0,.int .u32 0]) := ⟨kk⟩
instance : TyA Tryz.prog 44 35 := ⟨kk,kk⟩
instance : TyP Tryz.prog 44 [(0,1),(1,1),(2,1),(3,32)] [.int .i64 0,.int .u32 0,.int .u32 0,.int .u32 0,.int .u32 0,.int .u32 0,.int .u32 0,.int .u32 0,.int .u32 0,.int .u32 0,.int .u32 0,.int .u32 0,.int .u32 0,.int .u32 0,.int .u32 0,.int .u32 0,.int .u32 0,.int .u32 0,.int .u32 0,.int .u32 0,.int .u32 0,.int .u32 0,.int .u32 0,.int .u32 0,.int .u32 0,.int .u32 0,.int .u32 0,.int .u32 0,.int .u32 0,.int .u32 0,.int .u32 0,.int .u32 0,.int .u32 0,.int .u32 0,.int .u32 0] := ⟨kk⟩
instance : Fld Tryz.prog 44 0 0 3 := ⟨kk⟩
instance : Fld Tryz.prog 44 1 1 25 := ⟨kk⟩
instance : Fld Tryz.prog 44 2 2 25 := ⟨kk⟩
instance : Fld Tryz.prog 44 3 3 42 := ⟨kk⟩
instance : TyD Tryz.prog 48 (.slice 44) := ⟨kk⟩
instance : TyS Tryz.prog 48 1 24 := ⟨kk⟩
instance : TyZ Tryz.prog 48 (.slice none 0 0) := ⟨kk⟩
instance : TyC Tryz.prog 48 := ⟨kk,kk,kk⟩
instance : TyD Tryz.prog 49 (.slice 9) := ⟨kk⟩
instance : TyS Tryz.prog 49 1 24 := ⟨kk⟩
instance : TyZ Tryz.prog 49 (.slice none 0 0) := ⟨kk⟩
instance : TyC Tryz.prog 49 := ⟨kk,kk,kk⟩
instance : TyD Tryz.prog 50 (.slice 76) := ⟨kk⟩
instance : TyS Tryz.prog 50 1 24 := ⟨kk⟩
instance : TyZ Tryz.prog 50 (.slice none 0 0) := ⟨kk⟩
instance : TyC Tryz.prog 50 := ⟨kk,kk,kk⟩
instance : TyD Tryz.prog 51 (.slice 111) := ⟨kk⟩
instance : TyS Tryz.prog 51 1 24 := ⟨kk⟩
instance : TyZ Tryz.prog 51 (.slice none 0 0) := ⟨kk⟩
instance : TyC Tryz.prog 51 := ⟨kk,kk,kk⟩
instance : TyD Tryz.prog 52 (.pointer 156) := ⟨kk⟩
instance : TyS Tryz.prog 52 1 8 := ⟨kk⟩
instance : TyZ Tryz.prog 52 (.pointer none) := ⟨kk⟩
instance : TyC Tryz.prog 52 := ⟨kk,kk,kk⟩
instance : TyS Tryz.prog 53 6 112 := ⟨kk⟩
instance : TyZ Tryz.prog 53 (.agg #[.int .i64 0,.slice none 0 0,.slice none 0 0,.slice none 0 0,.slice none 0 0,.pointer none]) := ⟨kk⟩
instance : TyA Tryz.prog 53 6 := ⟨kk,kk⟩
instance : TyP Tryz.prog 53 [(0,1),(1,1),(2,1),(3,1),(4,1),(5,1)] [.int .i64 0,.slice none 0 0,.slice none 0 0,.slice none 0 0,.slice none 0 0,.pointer none] := ⟨kk⟩
instance : Fld Tryz.prog 53 0 0 3 := ⟨kk⟩
instance : Fld Tryz.prog 53 1 1 48 := ⟨kk⟩
instance : Fld Tryz.prog 53 2 2 49 := ⟨kk⟩
instance : Fld Tryz.prog 53 3 3 50 := ⟨kk⟩
instance : Fld Tryz.prog 53 4 4 51 := ⟨kk⟩
instance : Fld Tryz.prog 53 5 5 52 := ⟨kk⟩
instance : TyS Tryz.prog 54 6 112 := ⟨kk⟩
instance : TyZ Tryz.prog 54 (.agg #[.int .i64 0,.slice none 0 0,.slice none 0 0,.slice none 0 0,.slice none 0 0,.pointer none]) := ⟨kk⟩
instance : TyA Tryz.prog 54 6 := ⟨kk,kk⟩
instance : TyP Tryz.prog 54 [(0,1),(1,1),(2,1),(3,1),(4,1),(5,1)] [.int .i64 0,.slice none 0 0,.slice none 0 0,.slice none 0 0,.slice none 0 0,.pointer none] := ⟨kk⟩
instance : Fld Tryz.prog 54 0 0 3 := ⟨kk⟩
instance : Fld Tryz.prog 54 1 1 48 := ⟨kk⟩
instance : Fld Tryz.prog 54 2 2 49 := ⟨kk⟩
instance : Fld Tryz.prog 54 3 3 50 := ⟨kk⟩
instance : Fld Tryz.prog 54 4 4 51 := ⟨kk⟩
instance : Fld Tryz.prog 54 5 5 52 := ⟨kk⟩
instance : TyD Tryz.prog 58 (.array 2 30) := ⟨kk⟩
instance : TyS Tryz.prog 58 8 160 := ⟨kk⟩
instance : TyZ Tryz.prog 58 (.agg #[.slice none 0 0,.slice none 0 0,.int .i64 0,.slice none 0 0,.slice none 0 0,.slice none 0 0,.int .i64 0,.slice none 0 0]) := ⟨kk⟩
instance : TyA Tryz.prog 58 8 := ⟨kk,kk⟩
instance : TyD Tryz.prog 59 (.int .i64) := ⟨kk⟩
instance : TyS Tryz.prog 59 1 8 := ⟨kk⟩
instance : TyZ Tryz.prog 59 (.int .i64 0) := ⟨kk⟩
instance : TyC Tryz.prog 59 := ⟨kk,kk,kk⟩
instance : TyD Tryz.prog 65 (.slice 160) := ⟨kk⟩
instance : TyS Tryz.prog 65 1 24 := ⟨kk⟩
instance : TyZ Tryz.prog 65 (.slice none 0 0) := ⟨kk⟩
instance : TyC Tryz.prog 65 := ⟨kk,kk,kk⟩
instance : TyD Tryz.prog 67 (.slice 70) := ⟨kk⟩
instance : TyS Tryz.prog 67 1 24 := ⟨kk⟩
instance : TyZ Tryz.prog 67 (.slice none 0 0) := ⟨kk⟩
instance : TyC Tryz.prog 67 := ⟨kk,kk,kk⟩
instance : TyS Tryz.prog 69 7 40 := ⟨kk⟩
instance : TyZ Tryz.prog 69 (.agg #[.int .u32 0,.bool false,.int .u32 0,.int .u32 0,.int .u32 0,.int .i64 0,.bool false]) := ⟨kk⟩
instance : TyA Tryz.prog 69 7 := ⟨kk,kk⟩
instance : TyP Tryz.prog 69 [(0,1),(1,1),(2,1),(3,1),(4,1),(5,1),(6,1)] [.int .u32 0,.bool false,.int .u32 0,.int .u32 0,.int .u32 0,.int .i64 0,.bool false] := ⟨kk⟩
instance : Fld Tryz.prog 69 0 0 25 := ⟨kk⟩
instance : Fld Tryz.prog 69 1 1 4 := ⟨kk⟩
instance : Fld Tryz.prog 69 2 2 25 := ⟨kk⟩
instance : Fld Tryz.prog 69 3 3 25 := ⟨kk⟩
instance : Fld Tryz.prog 69 4 4 25 := ⟨kk⟩
instance : Fld Tryz.prog 69 5 5 3 := ⟨kk⟩
instance : Fld Tryz.prog 69 6 6 4 := ⟨kk⟩
instance : TyS Tryz.prog 70 7 40 := ⟨kk⟩
instance : TyZ Tryz.prog 70 (.agg #[.int .u32 0,.bool false,.int .u32 0,.int .u32 0,.int .u32 0,.int .i64 0,.bool false]) := ⟨kk⟩
instance : TyA Tryz.prog 70 7 := ⟨kk,kk⟩
instance : TyP Tryz.prog 70 [(0,1),(1,1),(2,1),(3,1),(4,1),(5,1),(6,1)] [.int .u32 0,.bool false,.int .u32 0,.int .u32 0,.int .u32 0,.int .i64 0,.bool false] := ⟨kk⟩
instance : Fld Tryz.prog 70 0 0 25 := ⟨kk⟩
instance : Fld Tryz.prog 70 1 1 4 := ⟨kk⟩
instance : Fld Tryz.prog 70 2 2 25 := ⟨kk⟩
instance : Fld Tryz.prog 70 3 3 25 := ⟨kk⟩
instance : Fld Tryz.prog 70 4 4 25 := ⟨kk⟩
instance : Fld Tryz.prog 70 5 5 3 := ⟨kk⟩
instance : Fld Tryz.prog 70 6 6 4 := ⟨kk⟩
instance : TyD Tryz.prog 72 (.array 2 3) := ⟨kk⟩
instance : TyS Tryz.prog 72 2 16 := ⟨kk⟩
instance : TyZ Tryz.prog 72 (.agg #[.int .i64 0,.int .i64 0]) := ⟨kk⟩
instance : TyA Tryz.prog 72 2 := ⟨kk,kk⟩
instance : TyD Tryz.prog 76 (.slice 78) := ⟨kk⟩
instance : TyS Tryz.prog 76 1 24 := ⟨kk⟩
instance : TyZ Tryz.prog 76 (.slice none 0 0) := ⟨kk⟩
instance : TyC Tryz.prog 76 := ⟨kk,kk,kk⟩
instance : TyS Tryz.prog 77 2 24 := ⟨kk⟩
instance : TyZ Tryz.prog 77 (.agg #[.int .i64 0,.string ⟨#[]⟩]) := ⟨kk⟩
instance : TyA Tryz.prog 77 2 := ⟨kk,kk⟩
instance : TyP Tryz.prog 77 [(0,1),(1,1)] [.int .i64 0,.string ⟨#[]⟩] := ⟨kk⟩
instance : Fld Tryz.prog 77 0 0 3 := ⟨kk⟩
instance : Fld Tryz.prog 77 1 1 9 := ⟨kk⟩
instance : TyS Tryz.prog 78 2 24 := ⟨kk⟩
instance : TyZ Tryz.prog 78 (.agg #[.int .i64 0,.string ⟨#[]⟩]) := ⟨kk⟩
instance : TyA Tryz.prog 78 2 := ⟨kk,kk⟩
instance : TyP Tryz.prog 78 [(0,1),(1,1)] [.int .i64 0,.string ⟨#[]⟩] := ⟨kk⟩
instance : Fld Tryz.prog 78 0 0 3 := ⟨kk⟩
instance : Fld Tryz.prog 78 1 1 9 := ⟨kk⟩
instance : TyD Tryz.prog 81 (.slice 116) := ⟨kk⟩
instance : TyS Tryz.prog 81 1 24 := ⟨kk⟩
instance : TyZ Tryz.prog 81 (.slice none 0 0) := ⟨kk⟩
instance : TyC Tryz.prog 81 := ⟨kk,kk,kk⟩
instance : TyD Tryz.prog 82 (.slice 65) := ⟨kk⟩
instance : TyS Tryz.prog 82 1 24 := ⟨kk⟩
instance : TyZ Tryz.prog 82 (.slice none 0 0) := ⟨kk⟩
instance : TyC Tryz.prog 82 := ⟨kk,kk,kk⟩
instance : TyD Tryz.prog 83 (.pointer 178) := ⟨kk⟩
instance : TyS Tryz.prog 83 1 8 := ⟨kk⟩
instance : TyZ Tryz.prog 83 (.pointer none) := ⟨kk⟩
instance : TyC Tryz.prog 83 := ⟨kk,kk,kk⟩
instance : TyD Tryz.prog 84 (.pointer 175) := ⟨kk⟩
instance : TyS Tryz.prog 84 1 8 := ⟨kk⟩
instance : TyZ Tryz.prog 84 (.pointer none) := ⟨kk⟩
instance : TyC Tryz.prog 84 := ⟨kk,kk,kk⟩
instance : TyD Tryz.prog 85 (.pointer 164) := ⟨kk⟩
instance : TyS Tryz.prog 85 1 8 := ⟨kk⟩
instance : TyZ Tryz.prog 85 (.pointer none) := ⟨kk⟩
instance : TyC Tryz.prog 85 := ⟨kk,kk,kk⟩
instance : TyS Tryz.prog 86 5 72 := ⟨kk⟩
instance : TyZ Tryz.prog 86 (.agg #[.slice none 0 0,.slice none 0 0,.pointer none,.pointer none,.pointer none]) := ⟨kk⟩
instance : TyA Tryz.prog 86 5 := ⟨kk,kk⟩
instance : TyP Tryz.prog 86 [(0,1),(1,1),(2,1),(3,1),(4,1)] [.slice none 0 0,.slice none 0 0,.pointer none,.pointer none,.pointer none] := ⟨kk⟩
instance : Fld Tryz.prog 86 0 0 81 := ⟨kk⟩
instance : Fld Tryz.prog 86 1 1 82 := ⟨kk⟩
instance : Fld Tryz.prog 86 2 2 83 := ⟨kk⟩
instance : Fld Tryz.prog 86 3 3 84 := ⟨kk⟩
instance : Fld Tryz.prog 86 4 4 85 := ⟨kk⟩
instance : TyS Tryz.prog 87 5 72 := ⟨kk⟩
instance : TyZ Tryz.prog 87 (.agg #[.slice none 0 0,.slice none 0 0,.pointer none,.pointer none,.pointer none]) := ⟨kk⟩
instance : TyA Tryz.prog 87 5 := ⟨kk,kk⟩
instance : TyP Tryz.prog 87 [(0,1),(1,1),(2,1),(3,1),(4,1)] [.slice none 0 0,.slice none 0 0,.pointer none,.pointer none,.pointer none] := ⟨kk⟩
instance : Fld Tryz.prog 87 0 0 81 := ⟨kk⟩
instance : Fld Tryz.prog 87 1 1 82 := ⟨kk⟩
instance : Fld Tryz.prog 87 2 2 83 := ⟨kk⟩
instance : Fld Tryz.prog 87 3 3 84 := ⟨kk⟩
instance : Fld Tryz.prog 87 4 4 85 := ⟨kk⟩
instance : TyD Tryz.prog 88 (.pointer 167) := ⟨kk⟩
instance : TyS Tryz.prog 88 1 8 := ⟨kk⟩
instance : TyZ Tryz.prog 88 (.pointer none) := ⟨kk⟩
instance : TyC Tryz.prog 88 := ⟨kk,kk,kk⟩
instance : TyD Tryz.prog 89 (.pointer 87) := ⟨kk⟩
instance : TyS Tryz.prog 89 1 8 := ⟨kk⟩
instance : TyZ Tryz.prog 89 (.pointer none) := ⟨kk⟩
instance : TyC Tryz.prog 89 := ⟨kk,kk,kk⟩
instance : TyS Tryz.prog 90 2 16 := ⟨kk⟩
instance : TyZ Tryz.prog 90 (.agg #[.pointer none,.pointer none]) := ⟨kk⟩
instance : TyA Tryz.prog 90 2 := ⟨kk,kk⟩
instance : TyP Tryz.prog 90 [(0,1),(1,1)] [.pointer none,.pointer none] := ⟨kk⟩
instance : Fld Tryz.prog 90 0 0 88 := ⟨kk⟩
instance : Fld Tryz.prog 90 1 1 89 := ⟨kk⟩
instance : TyS Tryz.prog 91 2 16 := ⟨kk⟩
instance : TyZ Tryz.prog 91 (.agg #[.pointer none,.pointer none]) := ⟨kk⟩
instance : TyA Tryz.prog 91 2 := ⟨kk,kk⟩
instance : TyP Tryz.prog 91 [(0,1),(1,1)] [.pointer none,.pointer none] := ⟨kk⟩
instance : Fld Tryz.prog 91 0 0 88 := ⟨kk⟩
instance : Fld Tryz.prog 91 1 1 89 := ⟨kk⟩
instance : TyD Tryz.prog 107 (.array 32 5) := ⟨kk⟩
instance : TyS Tryz.prog 107 32 32 := ⟨kk⟩
instance : TyZ Tryz.prog 107 (.agg #[.int .u8 0,.int .u8 0,.int .u8 0,.int .u8 0,.int .u8 0,.int .u8 0,.int .u8 0,.int .u8 0,.int .u8 0,.int .u8 0,.int .u8 0,.int .u8 0,.int .u8 0,.int .u8 0,.int .u8 0,.int .u8 0,.int .u8 0,.int .u8 0,.int .u8 0,.int .u8 0,.int .u8 0,.int .u8 0,.int .u8 0,.int .u8 0,.int .u8 0,.int .u8 0,.int .u8 0,.int .u8 0,.int .u8 0,.int .u8 0,.int .u8 0,.int .u8 0]) := ⟨kk⟩
instance : TyA Tryz.prog 107 32 := ⟨kk,kk⟩
instance : TyS Tryz.prog 110 2 24 := ⟨kk⟩
instance : TyZ Tryz.prog 110 (.agg #[.int .i64 0,.string ⟨#[]⟩]) := ⟨kk⟩
instance : TyA Tryz.prog 110 2 := ⟨kk,kk⟩
instance : TyP Tryz.prog 110 [(0,1),(1,1)] [.int .i64 0,.string ⟨#[]⟩] := ⟨kk⟩
instance : Fld Tryz.prog 110 0 0 3 := ⟨kk⟩
instance : Fld Tryz.prog 110 1 1 9 := ⟨kk⟩
instance : TyS Tryz.prog 111 2 24 := ⟨kk⟩
instance : TyZ Tryz.prog 111 (.agg #[.int .i64 0,.string ⟨#[]⟩]) := ⟨kk⟩
instance : TyA Tryz.prog 111 2 := ⟨kk,kk⟩
instance : TyP Tryz.prog 111 [(0,1),(1,1)] [.int .i64 0,.string ⟨#[]⟩] := ⟨kk⟩
instance : Fld Tryz.prog 111 0 0 3 := ⟨kk⟩
instance : Fld Tryz.prog 111 1 1 9 := ⟨kk⟩
instance : TyD Tryz.prog 114 (.slice 180) := ⟨kk⟩
instance : TyS Tryz.prog 114 1 24 := ⟨kk⟩
instance : TyZ Tryz.prog 114 (.slice none 0 0) := ⟨kk⟩
instance : TyC Tryz.prog 114 := ⟨kk,kk,kk⟩
instance : TyS Tryz.prog 115 36 72 := ⟨kk⟩
instance : TyZ Tryz.prog 115 (.agg #[.int .u8 0,.int .u8 0,.int .u8 0,.int .u8 0,.int .u8 0,.int .u8 0,.int .u8 0,.int .u8 0,.int .u8 0,.int .u8 0,.int .u8 0,.int .u8 0,.int .u8 0,.int .u8 0,.int .u8 0,.int .u8 0,.int .u8 0,.int .u8 0,.int .u8 0,.int .u8 0,.int .u8 0,.int .u8 0,.int .u8 0,.int .u8 0,.int .u8 0,.int .u8 0,.int .u8 0,.int .u8 0,.int .u8 0,.int .u8 0,.int .u8 0,.int .u8 0,.int .u32 0,.int .u32 0,.slice none 0 0,.int .i64 0]) := ⟨kk⟩
instance : TyA Tryz.prog 115 36 := ⟨kk,kk⟩
instance : TyP Tryz.prog 115 [(0,32),(32,1),(33,1),(34,1),(35,1)] [.int .u8 0,.int .u8 0,.int .u8 0,.int .u8 0,.int .u8 0,.int .u8 0,.int .u8 0,.int .u8 0,.int .u8 0,.int .u8 0,.int .u8 0,.int .u8 0,.int .u8 0,.int .u8 0,.int .u8 0,.int .u8 0,.int .u8 0,.int .u8 0,.int .u8 0,.int .u8 0,.int .u8 0,.int .u8 0,.int .u8 0,.int .u8 0,.int .u8 0,.int .u8 0,.int .u8 0,.int .u8 0,.int .u8 0,.int .u8 0,.int .u8 0,.int .u8 0,.int .u32 0,.int .u32 0,.slice none 0 0,.int .i64 0] := ⟨kk⟩
instance : Fld Tryz.prog 115 0 0 107 := ⟨kk⟩
instance : Fld Tryz.prog 115 1 32 25 := ⟨kk⟩
instance : Fld Tryz.prog 115 2 33 25 := ⟨kk⟩
instance : Fld Tryz.prog 115 3 34 114 := ⟨kk⟩
instance : Fld Tryz.prog 115 4 35 3 := ⟨kk⟩
instance : TyS Tryz.prog 116 36 72 := ⟨kk⟩
instance : TyZ Tryz.prog 116 (.agg #[.int .u8 0,.int .u8 0,.int .u8 0,.int .u8 0,.int .u8 0,.int .u8 0,.int .u8 0,.int .u8 0,.int .u8 0,.int .u8 0,.int .u8 0,.int .u8 0,.int .u8 0,.int .u8 0,.int .u8 0,.int .u8 0,.int .u8 0,.int .u8 0,.int .u8 0,.int .u8 0,.int .u8 0,.int .u8 0,.int .u8 0,.int .u8 0,.int .u8 0,.int .u8 0,.int .u8 0,.int .u8 0,.int .u8 0,.int .u8 0,.int .u8 0,.int .u8 0,.int .u32 0,.int .u32 0,.slice none 0 0,.int .i64 0]) := ⟨kk⟩
instance : TyA Tryz.prog 116 36 := ⟨kk,kk⟩
instance : TyP Tryz.prog 116 [(0,32),(32,1),(33,1),(34,1),(35,1)] [.int .u8 0,.int .u8 0,.int .u8 0,.int .u8 0,.int .u8 0,.int .u8 0,.int .u8 0,.int .u8 0,.int .u8 0,.int .u8 0,.int .u8 0,.int .u8 0,.int .u8 0,.int .u8 0,.int .u8 0,.int .u8 0,.int .u8 0,.int .u8 0,.int .u8 0,.int .u8 0,.int .u8 0,.int .u8 0,.int .u8 0,.int .u8 0,.int .u8 0,.int .u8 0,.int .u8 0,.int .u8 0,.int .u8 0,.int .u8 0,.int .u8 0,.int .u8 0,.int .u32 0,.int .u32 0,.slice none 0 0,.int .i64 0] := ⟨kk⟩
instance : Fld Tryz.prog 116 0 0 107 := ⟨kk⟩
instance : Fld Tryz.prog 116 1 32 25 := ⟨kk⟩
instance : Fld Tryz.prog 116 2 33 25 := ⟨kk⟩
instance : Fld Tryz.prog 116 3 34 114 := ⟨kk⟩
instance : Fld Tryz.prog 116 4 35 3 := ⟨kk⟩
instance : TyD Tryz.prog 124 (.array 2 25) := ⟨kk⟩
instance : TyS Tryz.prog 124 2 8 := ⟨kk⟩
instance : TyZ Tryz.prog 124 (.agg #[.int .u32 0,.int .u32 0]) := ⟨kk⟩
instance : TyA Tryz.prog 124 2 := ⟨kk,kk⟩
instance : TyD Tryz.prog 126 (.pointer 133) := ⟨kk⟩
instance : TyS Tryz.prog 126 1 8 := ⟨kk⟩
instance : TyZ Tryz.prog 126 (.pointer none) := ⟨kk⟩
instance : TyC Tryz.prog 126 := ⟨kk,kk,kk⟩
instance : TyD Tryz.prog 127 (.pointer 139) := ⟨kk⟩
instance : TyS Tryz.prog 127 1 8 := ⟨kk⟩
instance : TyZ Tryz.prog 127 (.pointer none) := ⟨kk⟩
instance : TyC Tryz.prog 127 := ⟨kk,kk,kk⟩
instance : TyD Tryz.prog 128 (.pointer 210) := ⟨kk⟩
instance : TyS Tryz.prog 128 1 8 := ⟨kk⟩
instance : TyZ Tryz.prog 128 (.pointer none) := ⟨kk⟩
instance : TyC Tryz.prog 128 := ⟨kk,kk,kk⟩
instance : TyS Tryz.prog 129 4 48 := ⟨kk⟩
instance : TyZ Tryz.prog 129 (.agg #[.pointer none,.pointer none,.pointer none,.slice none 0 0]) := ⟨kk⟩
instance : TyA Tryz.prog 129 4 := ⟨kk,kk⟩
instance : TyP Tryz.prog 129 [(0,1),(1,1),(2,1),(3,1)] [.pointer none,.pointer none,.pointer none,.slice none 0 0] := ⟨kk⟩
instance : Fld Tryz.prog 129 0 0 126 := ⟨kk⟩
instance : Fld Tryz.prog 129 1 1 127 := ⟨kk⟩
instance : Fld Tryz.prog 129 2 2 128 := ⟨kk⟩
instance : Fld Tryz.prog 129 3 3 67 := ⟨kk⟩
instance : TyS Tryz.prog 130 4 48 := ⟨kk⟩
instance : TyZ Tryz.prog 130 (.agg #[.pointer none,.pointer none,.pointer none,.slice none 0 0]) := ⟨kk⟩
instance : TyA Tryz.prog 130 4 := ⟨kk,kk⟩
instance : TyP Tryz.prog 130 [(0,1),(1,1),(2,1),(3,1)] [.pointer none,.pointer none,.pointer none,.slice none 0 0] := ⟨kk⟩
instance : Fld Tryz.prog 130 0 0 126 := ⟨kk⟩
instance : Fld Tryz.prog 130 1 1 127 := ⟨kk⟩
instance : Fld Tryz.prog 130 2 2 128 := ⟨kk⟩
instance : Fld Tryz.prog 130 3 3 67 := ⟨kk⟩
instance : TyD Tryz.prog 131 (.pointer 145) := ⟨kk⟩
instance : TyS Tryz.prog 131 1 8 := ⟨kk⟩
instance : TyZ Tryz.prog 131 (.pointer none) := ⟨kk⟩
instance : TyC Tryz.prog 131 := ⟨kk,kk,kk⟩
instance : TyS Tryz.prog 132 35 152 := ⟨kk⟩
instance : TyZ Tryz.prog 132 (.agg #[.int .u32 0,.int .u32 0,.int .u32 0,.int .u32 0,.int .u32 0,.int .u32 0,.int .u32 0,.int .u32 0,.int .u32 0,.int .u32 0,.int .u32 0,.int .u32 0,.int .u32 0,.int .u32 0,.int .u32 0,.int .u32 0,.int .u32 0,.int .u32 0,.int .u32 0,.int .u32 0,.int .u32 0,.int .u32 0,.int .u32 0,.int .u32 0,.int .u32 0,.int .u32 0,.int .u32 0,.int .u32 0,.int .u32 0,.int .u32 0,.int .u32 0,.int .u32 0,.int .u32 0,.pointer none,.pointer none]) := ⟨kk⟩
instance : TyA Tryz.prog 132 35 := ⟨kk,kk⟩
instance : TyP Tryz.prog 132 [(0,32),(32,1),(33,1),(34,1)] [.int .u32 0,.int .u32 0,.int .u32 0,.int .u32 0,.int .u32 0,.int .u32 0,.int .u32 0,.int .u32 0,.int .u32 0,.int .u32 0,.int .u32 0,.int .u32 0,.int .u32 0,.int .u32 0,.int .u32 0,.int .u32 0,.int .u32 0,.int .u32 0,.int .u32 0,.int .u32 0,.int .u32 0,.int .u32 0,.int .u32 0,.int .u32 0,.int .u32 0,.int .u32 0,.int .u32 0,.int .u32 0,.int .u32 0,.int .u32 0,.int .u32 0,.int .u32 0,.int .u32 0,.pointer none,.pointer none] := ⟨kk⟩
instance : Fld Tryz.prog 132 0 0 42 := ⟨kk⟩
instance : Fld Tryz.prog 132 1 32 25 := ⟨kk⟩
instance : Fld Tryz.prog 132 2 33 131 := ⟨kk⟩
instance : Fld Tryz.prog 132 3 34 52 := ⟨kk⟩
instance : TyS Tryz.prog 133 35 152 := ⟨kk⟩
instance : TyZ Tryz.prog 133 (.agg #[.int .u32 0,.int .u32 0,.int .u32 0,.int .u32 0,.int .u32 0,.int .u32 0,.int .u32 0,.int .u32 0,.int .u32 0,.int .u32 0,.int .u32 0,.int .u32 0,.int .u32 0,.int .u32 0,.int .u32 0,.int .u32 0,.int .u32 0,.int .u32 0,.int .u32 0,.int .u32 0,.int .u32 0,.int .u32 0,.int .u32 0,.int .u32 0,.int .u32 0,.int .u32 0,.int .u32 0,.int .u32 0,.int .u32 0,.int .u32 0,.int .u32 0,.int .u32 0,.int .u32 0,.pointer none,.pointer none]) := ⟨kk⟩
instance : TyA Tryz.prog 133 35 := ⟨kk,kk⟩
instance : TyP Tryz.prog 133 [(0,32),(32,1),(33,1),(34,1)] [.int .u32 0,.int .u32 0,.int .u32 0,.int .u32 0,.int .u32 0,.int .u32 0,.int .u32 0,.int .u32 0,.int .u32 0,.int .u32 0,.int .u32 0,.int .u32 0,.int .u32 0,.int .u32 0,.int .u32 0,.int .u32 0,.int .u32 0,.int .u32 0,.int .u32 0,.int .u32 0,.int .u32 0,.int .u32 0,.int .u32 0,.int .u32 0,.int .u32 0,.int .u32 0,.int .u32 0,.int .u32 0,.int .u32 0,.int .u32 0,.int .u32 0,.int .u32 0,.int .u32 0,.pointer none,.pointer none] := ⟨kk⟩
instance : Fld Tryz.prog 133 0 0 42 := ⟨kk⟩
instance : Fld Tryz.prog 133 1 32 25 := ⟨kk⟩
instance : Fld Tryz.prog 133 2 33 131 := ⟨kk⟩
instance : Fld Tryz.prog 133 3 34 52 := ⟨kk⟩
instance : TyD Tryz.prog 136 (.pointer 255) := ⟨kk⟩
instance : TyS Tryz.prog 136 1 8 := ⟨kk⟩
instance : TyZ Tryz.prog 136 (.pointer none) := ⟨kk⟩
instance : TyC Tryz.prog 136 := ⟨kk,kk,kk⟩
instance : TyD Tryz.prog 137 (.pointer 231) := ⟨kk⟩
instance : TyS Tryz.prog 137 1 8 := ⟨kk⟩
instance : TyZ Tryz.prog 137 (.pointer none) := ⟨kk⟩
instance : TyC Tryz.prog 137 := ⟨kk,kk,kk⟩
instance : TyS Tryz.prog 138 5 72 := ⟨kk⟩
instance : TyZ Tryz.prog 138 (.agg #[.slice none 0 0,.slice none 0 0,.pointer none,.pointer none,.pointer none]) := ⟨kk⟩
instance : TyA Tryz.prog 138 5 := ⟨kk,kk⟩
instance : TyP Tryz.prog 138 [(0,1),(1,1),(2,1),(3,1),(4,1)] [.slice none 0 0,.slice none 0 0,.pointer none,.pointer none,.pointer none] := ⟨kk⟩
instance : Fld Tryz.prog 138 0 0 81 := ⟨kk⟩
instance : Fld Tryz.prog 138 1 1 82 := ⟨kk⟩
instance : Fld Tryz.prog 138 2 2 52 := ⟨kk⟩
instance : Fld Tryz.prog 138 3 3 136 := ⟨kk⟩
instance : Fld Tryz.prog 138 4 4 137 := ⟨kk⟩
instance : TyS Tryz.prog 139 5 72 := ⟨kk⟩
instance : TyZ Tryz.prog 139 (.agg #[.slice none 0 0,.slice none 0 0,.pointer none,.pointer none,.pointer none]) := ⟨kk⟩
instance : TyA Tryz.prog 139 5 := ⟨kk,kk⟩
instance : TyP Tryz.prog 139 [(0,1),(1,1),(2,1),(3,1),(4,1)] [.slice none 0 0,.slice none 0 0,.pointer none,.pointer none,.pointer none] := ⟨kk⟩
instance : Fld Tryz.prog 139 0 0 81 := ⟨kk⟩
instance : Fld Tryz.prog 139 1 1 82 := ⟨kk⟩
instance : Fld Tryz.prog 139 2 2 52 := ⟨kk⟩
instance : Fld Tryz.prog 139 3 3 136 := ⟨kk⟩
instance : Fld Tryz.prog 139 4 4 137 := ⟨kk⟩
instance : TyD Tryz.prog 141 (.array 16 5) := ⟨kk⟩
instance : TyS Tryz.prog 141 16 16 := ⟨kk⟩
instance : TyZ Tryz.prog 141 (.agg #[.int .u8 0,.int .u8 0,.int .u8 0,.int .u8 0,.int .u8 0,.int .u8 0,.int .u8 0,.int .u8 0,.int .u8 0,.int .u8 0,.int .u8 0,.int .u8 0,.int .u8 0,.int .u8 0,.int .u8 0,.int .u8 0]) := ⟨kk⟩
instance : TyA Tryz.prog 141 16 := ⟨kk,kk⟩
instance : TyD Tryz.prog 142 (.array 16 25) := ⟨kk⟩
instance : TyS Tryz.prog 142 16 64 := ⟨kk⟩
instance : TyZ Tryz.prog 142 (.agg #[.int .u32 0,.int .u32 0,.int .u32 0,.int .u32 0,.int .u32 0,.int .u32 0,.int .u32 0,.int .u32 0,.int .u32 0,.int .u32 0,.int .u32 0,.int .u32 0,.int .u32 0,.int .u32 0,.int .u32 0,.int .u32 0]) := ⟨kk⟩
instance : TyA Tryz.prog 142 16 := ⟨kk,kk⟩
instance : TyD Tryz.prog 143 (.int .u64) := ⟨kk⟩
instance : TyS Tryz.prog 143 1 8 := ⟨kk⟩
instance : TyZ Tryz.prog 143 (.int .u64 0) := ⟨kk⟩
instance : TyC Tryz.prog 143 := ⟨kk,kk,kk⟩
instance : TyS Tryz.prog 144 43 136 := ⟨kk⟩
instance : TyZ Tryz.prog 144 (.agg #[.int .i64 0,.int .u32 0,.int .u32 0,.int .u32 0,.int .u32 0,.int .u32 0,.int .u32 0,.int .u32 0,.int .u32 0,.int .u8 0,.int .u8 0,.int .u8 0,.int .u8 0,.int .u8 0,.int .u8 0,.int .u8 0,.int .u8 0,.int .u8 0,.int .u8 0,.int .u8 0,.int .u8 0,.int .u8 0,.int .u8 0,.int .u8 0,.int .u8 0,.int .u32 0,.int .u32 0,.int .u32 0,.int .u32 0,.int .u32 0,.int .u32 0,.int .u32 0,.int .u32 0,.int .u32 0,.int .u32 0,.int .u32 0,.int .u32 0,.int .u32 0,.int .u32 0,.int .u32 0,.int .u32 0,.int .u64 0,.int .u64 0]) := ⟨kk⟩
instance : TyA Tryz.prog 144 43 := ⟨kk,kk⟩
instance : TyP Tryz.prog 144 [(0,1),(1,1),(2,1),(3,1),(4,1),(5,1),(6,1),(7,1),(8,1),(9,16),(25,16),(41,1),(42,1)] [.int .i64 0,.int .u32 0,.int .u32 0,.int .u32 0,.int .u32 0,.int .u32 0,.int .u32 0,.int .u32 0,.int .u32 0,.int .u8 0,.int .u8 0,.int .u8 0,.int .u8 0,.int .u8 0,.int .u8 0,.int .u8 0,.int .u8 0,.int .u8 0,.int .u8 0,.int .u8 0,.int .u8 0,.int .u8 0,.int .u8 0,.int .u8 0,.int .u8 0,.int .u32 0,.int .u32 0,.int .u32 0,.int .u32 0,.int .u32 0,.int .u32 0,.int .u32 0,.int .u32 0,.int .u32 0,.int .u32 0,.int .u32 0,.int .u32 0,.int .u32 0,.int .u32 0,.int .u32 0,.int .u32 0,.int .u64 0,.int .u64 0] := ⟨kk⟩
instance : Fld Tryz.prog 144 0 0 3 := ⟨kk⟩
instance : Fld Tryz.prog 144 1 1 25 := ⟨kk⟩
instance : Fld Tryz.prog 144 2 2 25 := ⟨kk⟩
instance : Fld Tryz.prog 144 3 3 25 := ⟨kk⟩
instance : Fld Tryz.prog 144 4 4 25 := ⟨kk⟩
instance : Fld Tryz.prog 144 5 5 25 := ⟨kk⟩
instance : Fld Tryz.prog 144 6 6 25 := ⟨kk⟩
instance : Fld Tryz.prog 144 7 7 25 := ⟨kk⟩
instance : Fld Tryz.prog 144 8 8 25 := ⟨kk⟩
instance : Fld Tryz.prog 144 9 9 141 := ⟨kk⟩
instance : Fld Tryz.prog 144 10 25 142 := ⟨kk⟩
instance : Fld Tryz.prog 144 11 41 143 := ⟨kk⟩
instance : Fld Tryz.prog 144 12 42 143 := ⟨kk⟩
instance : TyS Tryz.prog 145 43 136 := ⟨kk⟩
instance : TyZ Tryz.prog 145 (.agg #[.int .i64 0,.int .u32 0,.int .u32 0,.int .u32 0,.int .u32 0,.int .u32 0,.int .u32 0,.int .u32 0,.int .u32 0,.int .u8 0,.int .u8 0,.int .u8 0,.int .u8 0,.int .u8 0,.int .u8 0,.int .u8 0,.int .u8 0,.int .u8 0,.int .u8 0,.int .u8 0,.int .u8 0,.int .u8 0,.int .u8 0,.int .u8 0,.int .u8 0,.int .u32 0,.int .u32 0,.int .u32 0,.int .u32 0,.int .u32 0,.int .u32 0,.int .u32 0,.int .u32 0,.int .u32 0,.int .u32 0,.int .u32 0,.int .u32 0,.int .u32 0,.int .u32 0,.int .u32 0,.int .u32 0,.int .u64 0,.int .u64 0]) := ⟨kk⟩
instance : TyA Tryz.prog 145 43 := ⟨kk,kk⟩
instance : TyP Tryz.prog 145 [(0,1),(1,1),(2,1),(3,1),(4,1),(5,1),(6,1),(7,1),(8,1),(9,16),(25,16),(41,1),(42,1)] [.int .i64 0,.int .u32 0,.int .u32 0,.int .u32 0,.int .u32 0,.int .u32 0,.int .u32 0,.int .u32 0,.int .u32 0,.int .u8 0,.int .u8 0,.int .u8 0,.int .u8 0,.int .u8 0,.int .u8 0,.int .u8 0,.int .u8 0,.int .u8 0,.int .u8 0,.int .u8 0,.int .u8 0,.int .u8 0,.int .u8 0,.int .u8 0,.int .u8 0,.int .u32 0,.int .u32 0,.int .u32 0,.int .u32 0,.int .u32 0,.int .u32 0,.int .u32 0,.int .u32 0,.int .u32 0,.int .u32 0,.int .u32 0,.int .u32 0,.int .u32 0,.int .u32 0,.int .u32 0,.int .u32 0,.int .u64 0,.int .u64 0] := ⟨kk⟩
instance : Fld Tryz.prog 145 0 0 3 := ⟨kk⟩
instance : Fld Tryz.prog 145 1 1 25 := ⟨kk⟩
instance : Fld Tryz.prog 145 2 2 25 := ⟨kk⟩
instance : Fld Tryz.prog 145 3 3 25 := ⟨kk⟩
instance : Fld Tryz.prog 145 4 4 25 := ⟨kk⟩
instance : Fld Tryz.prog 145 5 5 25 := ⟨kk⟩
instance : Fld Tryz.prog 145 6 6 25 := ⟨kk⟩
instance : Fld Tryz.prog 145 7 7 25 := ⟨kk⟩
instance : Fld Tryz.prog 145 8 8 25 := ⟨kk⟩
instance : Fld Tryz.prog 145 9 9 141 := ⟨kk⟩
instance : Fld Tryz.prog 145 10 25 142 := ⟨kk⟩
instance : Fld Tryz.prog 145 11 41 143 := ⟨kk⟩
instance : Fld Tryz.prog 145 12 42 143 := ⟨kk⟩
instance : TyD Tryz.prog 154 (.array 65536 5) := ⟨kk⟩
instance : TyS Tryz.prog 154 65536 65536 := ⟨kk⟩
instance : TyA Tryz.prog 154 65536 := ⟨kk,kk⟩
instance : TyS Tryz.prog 155 65536 65536 := ⟨kk⟩
instance : TyA Tryz.prog 155 65536 := ⟨kk,kk⟩
instance : Fld Tryz.prog 155 0 0 154 := ⟨kk⟩
instance : TyS Tryz.prog 156 65536 65536 := ⟨kk⟩
instance : TyA Tryz.prog 156 65536 := ⟨kk,kk⟩
instance : Fld Tryz.prog 156 0 0 154 := ⟨kk⟩
instance : TyS Tryz.prog 159 3 24 := ⟨kk⟩
instance : TyZ Tryz.prog 159 (.agg #[.int .i64 0,.int .i64 0,.int .u32 0]) := ⟨kk⟩
instance : TyA Tryz.prog 159 3 := ⟨kk,kk⟩
instance : TyP Tryz.prog 159 [(0,1),(1,1),(2,1)] [.int .i64 0,.int .i64 0,.int .u32 0] := ⟨kk⟩
instance : Fld Tryz.prog 159 0 0 3 := ⟨kk⟩
instance : Fld Tryz.prog 159 1 1 3 := ⟨kk⟩
instance : Fld Tryz.prog 159 2 2 25 := ⟨kk⟩
instance : TyS Tryz.prog 160 3 24 := ⟨kk⟩
instance : TyZ Tryz.prog 160 (.agg #[.int .i64 0,.int .i64 0,.int .u32 0]) := ⟨kk⟩
instance : TyA Tryz.prog 160 3 := ⟨kk,kk⟩
instance : TyP Tryz.prog 160 [(0,1),(1,1),(2,1)] [.int .i64 0,.int .i64 0,.int .u32 0] := ⟨kk⟩
instance : Fld Tryz.prog 160 0 0 3 := ⟨kk⟩
instance : Fld Tryz.prog 160 1 1 3 := ⟨kk⟩
instance : Fld Tryz.prog 160 2 2 25 := ⟨kk⟩
instance : TyS Tryz.prog 163 3 72 := ⟨kk⟩
instance : TyZ Tryz.prog 163 (.agg #[.slice none 0 0,.slice none 0 0,.slice none 0 0]) := ⟨kk⟩
instance : TyA Tryz.prog 163 3 := ⟨kk,kk⟩
instance : TyP Tryz.prog 163 [(0,1),(1,1),(2,1)] [.slice none 0 0,.slice none 0 0,.slice none 0 0] := ⟨kk⟩
instance : Fld Tryz.prog 163 0 0 22 := ⟨kk⟩
instance : Fld Tryz.prog 163 1 1 49 := ⟨kk⟩
instance : Fld Tryz.prog 163 2 2 49 := ⟨kk⟩
instance : TyS Tryz.prog 164 3 72 := ⟨kk⟩
instance : TyZ Tryz.prog 164 (.agg #[.slice none 0 0,.slice none 0 0,.slice none 0 0]) := ⟨kk⟩
instance : TyA Tryz.prog 164 3 := ⟨kk,kk⟩
instance : TyP Tryz.prog 164 [(0,1),(1,1),(2,1)] [.slice none 0 0,.slice none 0 0,.slice none 0 0] := ⟨kk⟩
instance : Fld Tryz.prog 164 0 0 22 := ⟨kk⟩
instance : Fld Tryz.prog 164 1 1 49 := ⟨kk⟩
instance : Fld Tryz.prog 164 2 2 49 := ⟨kk⟩
instance : TyD Tryz.prog 165 (.slice 169) := ⟨kk⟩
instance : TyS Tryz.prog 165 1 24 := ⟨kk⟩
instance : TyZ Tryz.prog 165 (.slice none 0 0) := ⟨kk⟩
instance : TyC Tryz.prog 165 := ⟨kk,kk,kk⟩
instance : TyS Tryz.prog 166 2 48 := ⟨kk⟩
instance : TyZ Tryz.prog 166 (.agg #[.slice none 0 0,.slice none 0 0]) := ⟨kk⟩
instance : TyA Tryz.prog 166 2 := ⟨kk,kk⟩
instance : TyP Tryz.prog 166 [(0,1),(1,1)] [.slice none 0 0,.slice none 0 0] := ⟨kk⟩
instance : Fld Tryz.prog 166 0 0 165 := ⟨kk⟩
instance : Fld Tryz.prog 166 1 1 165 := ⟨kk⟩
instance : TyS Tryz.prog 167 2 48 := ⟨kk⟩
instance : TyZ Tryz.prog 167 (.agg #[.slice none 0 0,.slice none 0 0]) := ⟨kk⟩
instance : TyA Tryz.prog 167 2 := ⟨kk,kk⟩
instance : TyP Tryz.prog 167 [(0,1),(1,1)] [.slice none 0 0,.slice none 0 0] := ⟨kk⟩
instance : Fld Tryz.prog 167 0 0 165 := ⟨kk⟩
instance : Fld Tryz.prog 167 1 1 165 := ⟨kk⟩
instance : TyS Tryz.prog 168 36 152 := ⟨kk⟩
instance : TyZ Tryz.prog 168 (.agg #[.int .i64 0,.int .i64 0,.int .u32 0,.int .u32 0,.int .u32 0,.int .u32 0,.int .u32 0,.int .u32 0,.int .u32 0,.int .u32 0,.int .u32 0,.int .u32 0,.int .u32 0,.int .u32 0,.int .u32 0,.int .u32 0,.int .u32 0,.int .u32 0,.int .u32 0,.int .u32 0,.int .u32 0,.int .u32 0,.int .u32 0,.int .u32 0,.int .u32 0,.int .u32 0,.int .u32 0,.int .u32 0,.int .u32 0,.int .u32 0,.int .u32 0,.int .u32 0,.int .u32 0,.int .u32 0,.int .u32 0,.int .u32 0]) := ⟨kk⟩
instance : TyA Tryz.prog 168 36 := ⟨kk,kk⟩
instance : TyP Tryz.prog 168 [(0,1),(1,35)] [.int .i64 0,.int .i64 0,.int .u32 0,.int .u32 0,.int .u32 0,.int .u32 0,.int .u32 0,.int .u32 0,.int .u32 0,.int .u32 0,.int .u32 0,.int .u32 0,.int .u32 0,.int .u32 0,.int .u32 0,.int .u32 0,.int .u32 0,.int .u32 0,.int .u32 0,.int .u32 0,.int .u32 0,.int .u32 0,.int .u32 0,.int .u32 0,.int .u32 0,.int .u32 0,.int .u32 0,.int .u32 0,.int .u32 0,.int .u32 0,.int .u32 0,.int .u32 0,.int .u32 0,.int .u32 0,.int .u32 0,.int .u32 0] := ⟨kk⟩
instance : Fld Tryz.prog 168 0 0 3 := ⟨kk⟩
instance : Fld Tryz.prog 168 1 1 44 := ⟨kk⟩
instance : TyS Tryz.prog 169 36 152 := ⟨kk⟩
instance : TyZ Tryz.prog 169 (.agg #[.int .i64 0,.int .i64 0,.int .u32 0,.int .u32 0,.int .u32 0,.int .u32 0,.int .u32 0,.int .u32 0,.int .u32 0,.int .u32 0,.int .u32 0,.int .u32 0,.int .u32 0,.int .u32 0,.int .u32 0,.int .u32 0,.int .u32 0,.int .u32 0,.int .u32 0,.int .u32 0,.int .u32 0,.int .u32 0,.int .u32 0,.int .u32 0,.int .u32 0,.int .u32 0,.int .u32 0,.int .u32 0,.int .u32 0,.int .u32 0,.int .u32 0,.int .u32 0,.int .u32 0,.int .u32 0,.int .u32 0,.int .u32 0]) := ⟨kk⟩
instance : TyA Tryz.prog 169 36 := ⟨kk,kk⟩
instance : TyP Tryz.prog 169 [(0,1),(1,35)] [.int .i64 0,.int .i64 0,.int .u32 0,.int .u32 0,.int .u32 0,.int .u32 0,.int .u32 0,.int .u32 0,.int .u32 0,.int .u32 0,.int .u32 0,.int .u32 0,.int .u32 0,.int .u32 0,.int .u32 0,.int .u32 0,.int .u32 0,.int .u32 0,.int .u32 0,.int .u32 0,.int .u32 0,.int .u32 0,.int .u32 0,.int .u32 0,.int .u32 0,.int .u32 0,.int .u32 0,.int .u32 0,.int .u32 0,.int .u32 0,.int .u32 0,.int .u32 0,.int .u32 0,.int .u32 0,.int .u32 0,.int .u32 0] := ⟨kk⟩
instance : Fld Tryz.prog 169 0 0 3 := ⟨kk⟩
instance : Fld Tryz.prog 169 1 1 44 := ⟨kk⟩
instance : TyD Tryz.prog 172 (.slice 196) := ⟨kk⟩
instance : TyS Tryz.prog 172 1 24 := ⟨kk⟩
instance : TyZ Tryz.prog 172 (.slice none 0 0) := ⟨kk⟩
instance : TyC Tryz.prog 172 := ⟨kk,kk,kk⟩
instance : TyD Tryz.prog 173 (.slice 172) := ⟨kk⟩
instance : TyS Tryz.prog 173 1 24 := ⟨kk⟩
instance : TyZ Tryz.prog 173 (.slice none 0 0) := ⟨kk⟩
instance : TyC Tryz.prog 173 := ⟨kk,kk,kk⟩
instance : TyS Tryz.prog 174 1 24 := ⟨kk⟩
instance : TyZ Tryz.prog 174 (.agg #[.slice none 0 0]) := ⟨kk⟩
instance : TyA Tryz.prog 174 1 := ⟨kk,kk⟩
instance : TyP Tryz.prog 174 [(0,1)] [.slice none 0 0] := ⟨kk⟩
instance : Fld Tryz.prog 174 0 0 173 := ⟨kk⟩
instance : TyS Tryz.prog 175 1 24 := ⟨kk⟩
instance : TyZ Tryz.prog 175 (.agg #[.slice none 0 0]) := ⟨kk⟩
instance : TyA Tryz.prog 175 1 := ⟨kk,kk⟩
instance : TyP Tryz.prog 175 [(0,1)] [.slice none 0 0] := ⟨kk⟩
instance : Fld Tryz.prog 175 0 0 173 := ⟨kk⟩
instance : TyD Tryz.prog 176 (.map 3 5) := ⟨kk⟩
instance : TyS Tryz.prog 176 1 8 := ⟨kk⟩
instance : TyZ Tryz.prog 176 (.map none) := ⟨kk⟩
instance : TyC Tryz.prog 176 := ⟨kk,kk,kk⟩
instance : TyS Tryz.prog 177 1 8 := ⟨kk⟩
instance : TyZ Tryz.prog 177 (.agg #[.map none]) := ⟨kk⟩
instance : TyA Tryz.prog 177 1 := ⟨kk,kk⟩
instance : TyP Tryz.prog 177 [(0,1)] [.map none] := ⟨kk⟩
instance : Fld Tryz.prog 177 0 0 176 := ⟨kk⟩
instance : TyS Tryz.prog 178 1 8 := ⟨kk⟩
instance : TyZ Tryz.prog 178 (.agg #[.map none]) := ⟨kk⟩
instance : TyA Tryz.prog 178 1 := ⟨kk,kk⟩
instance : TyP Tryz.prog 178 [(0,1)] [.map none] := ⟨kk⟩
instance : Fld Tryz.prog 178 0 0 176 := ⟨kk⟩
instance : TyS Tryz.prog 179 3 16 := ⟨kk⟩
instance : TyZ Tryz.prog 179 (.agg #[.int .u32 0,.int .u32 0,.int .i64 0]) := ⟨kk⟩
instance : TyA Tryz.prog 179 3 := ⟨kk,kk⟩
instance : TyP Tryz.prog 179 [(0,1),(1,1),(2,1)] [.int .u32 0,.int .u32 0,.int .i64 0] := ⟨kk⟩
instance : Fld Tryz.prog 179 0 0 25 := ⟨kk⟩
instance : Fld Tryz.prog 179 1 1 25 := ⟨kk⟩
instance : Fld Tryz.prog 179 2 2 3 := ⟨kk⟩
instance : TyS Tryz.prog 180 3 16 := ⟨kk⟩
instance : TyZ Tryz.prog 180 (.agg #[.int .u32 0,.int .u32 0,.int .i64 0]) := ⟨kk⟩
instance : TyA Tryz.prog 180 3 := ⟨kk,kk⟩
instance : TyP Tryz.prog 180 [(0,1),(1,1),(2,1)] [.int .u32 0,.int .u32 0,.int .i64 0] := ⟨kk⟩
instance : Fld Tryz.prog 180 0 0 25 := ⟨kk⟩
instance : Fld Tryz.prog 180 1 1 25 := ⟨kk⟩
instance : Fld Tryz.prog 180 2 2 3 := ⟨kk⟩
instance : TyD Tryz.prog 188 (.int .u64) := ⟨kk⟩
instance : TyS Tryz.prog 188 1 8 := ⟨kk⟩
instance : TyZ Tryz.prog 188 (.int .u64 0) := ⟨kk⟩
instance : TyC Tryz.prog 188 := ⟨kk,kk,kk⟩
instance : TyD Tryz.prog 193 (.slice 27) := ⟨kk⟩
instance : TyS Tryz.prog 193 1 24 := ⟨kk⟩
instance : TyZ Tryz.prog 193 (.slice none 0 0) := ⟨kk⟩
instance : TyC Tryz.prog 193 := ⟨kk,kk,kk⟩
instance : TyS Tryz.prog 196 2 24 := ⟨kk⟩
instance : TyZ Tryz.prog 196 (.agg #[.int .i64 0,.string ⟨#[]⟩]) := ⟨kk⟩
instance : TyA Tryz.prog 196 2 := ⟨kk,kk⟩
instance : TyP Tryz.prog 196 [(0,1),(1,1)] [.int .i64 0,.string ⟨#[]⟩] := ⟨kk⟩
instance : Fld Tryz.prog 196 0 0 3 := ⟨kk⟩
instance : Fld Tryz.prog 196 1 1 9 := ⟨kk⟩
instance : TyD Tryz.prog 199 (.pointer 261) := ⟨kk⟩
instance : TyS Tryz.prog 199 1 8 := ⟨kk⟩
instance : TyZ Tryz.prog 199 (.pointer none) := ⟨kk⟩
instance : TyC Tryz.prog 199 := ⟨kk,kk,kk⟩
instance : TyD Tryz.prog 203 (.slice 143) := ⟨kk⟩
instance : TyS Tryz.prog 203 1 24 := ⟨kk⟩
instance : TyZ Tryz.prog 203 (.slice none 0 0) := ⟨kk⟩
instance : TyC Tryz.prog 203 := ⟨kk,kk,kk⟩
instance : TyD Tryz.prog 205 (.array 64 143) := ⟨kk⟩
instance : TyS Tryz.prog 205 64 512 := ⟨kk⟩
instance : TyZ Tryz.prog 205 (.agg #[.int .u64 0,.int .u64 0,.int .u64 0,.int .u64 0,.int .u64 0,.int .u64 0,.int .u64 0,.int .u64 0,.int .u64 0,.int .u64 0,.int .u64 0,.int .u64 0,.int .u64 0,.int .u64 0,.int .u64 0,.int .u64 0,.int .u64 0,.int .u64 0,.int .u64 0,.int .u64 0,.int .u64 0,.int .u64 0,.int .u64 0,.int .u64 0,.int .u64 0,.int .u64 0,.int .u64 0,.int .u64 0,.int .u64 0,.int .u64 0,.int .u64 0,.int .u64 0,.int .u64 0,.int .u64 0,.int .u64 0,.int .u64 0,.int .u64 0,.int .u64 0,.int .u64 0,.int .u64 0,.int .u64 0,.int .u64 0,.int .u64 0,.int .u64 0,.int .u64 0,.int .u64 0,.int .u64 0,.int .u64 0,.int .u64 0,.int .u64 0,.int .u64 0,.int .u64 0,.int .u64 0,.int .u64 0,.int .u64 0,.int .u64 0,.int .u64 0,.int .u64 0,.int .u64 0,.int .u64 0,.int .u64 0,.int .u64 0,.int .u64 0,.int .u64 0]) := ⟨kk⟩
instance : TyA Tryz.prog 205 64 := ⟨kk,kk⟩
instance : TyS Tryz.prog 209 2 32 := ⟨kk⟩
instance : TyZ Tryz.prog 209 (.agg #[.slice none 0 0,.int .i64 0]) := ⟨kk⟩
instance : TyA Tryz.prog 209 2 := ⟨kk,kk⟩
instance : TyP Tryz.prog 209 [(0,1),(1,1)] [.slice none 0 0,.int .i64 0] := ⟨kk⟩
instance : Fld Tryz.prog 209 0 0 48 := ⟨kk⟩
instance : Fld Tryz.prog 209 1 1 3 := ⟨kk⟩
instance : TyS Tryz.prog 210 2 32 := ⟨kk⟩
instance : TyZ Tryz.prog 210 (.agg #[.slice none 0 0,.int .i64 0]) := ⟨kk⟩
instance : TyA Tryz.prog 210 2 := ⟨kk,kk⟩
instance : TyP Tryz.prog 210 [(0,1),(1,1)] [.slice none 0 0,.int .i64 0] := ⟨kk⟩
instance : Fld Tryz.prog 210 0 0 48 := ⟨kk⟩
instance : Fld Tryz.prog 210 1 1 3 := ⟨kk⟩
instance : TyS Tryz.prog 220 5 40 := ⟨kk⟩
instance : TyZ Tryz.prog 220 (.agg #[.int .i64 0,.int .i64 0,.int .i64 0,.int .i64 0,.int .u32 0]) := ⟨kk⟩
instance : TyA Tryz.prog 220 5 := ⟨kk,kk⟩
instance : TyP Tryz.prog 220 [(0,1),(1,1),(2,1),(3,1),(4,1)] [.int .i64 0,.int .i64 0,.int .i64 0,.int .i64 0,.int .u32 0] := ⟨kk⟩
instance : Fld Tryz.prog 220 0 0 3 := ⟨kk⟩
instance : Fld Tryz.prog 220 1 1 3 := ⟨kk⟩
instance : Fld Tryz.prog 220 2 2 3 := ⟨kk⟩
instance : Fld Tryz.prog 220 3 3 3 := ⟨kk⟩
instance : Fld Tryz.prog 220 4 4 25 := ⟨kk⟩
instance : TyS Tryz.prog 221 5 40 := ⟨kk⟩
instance : TyZ Tryz.prog 221 (.agg #[.int .i64 0,.int .i64 0,.int .i64 0,.int .i64 0,.int .u32 0]) := ⟨kk⟩
instance : TyA Tryz.prog 221 5 := ⟨kk,kk⟩
instance : TyP Tryz.prog 221 [(0,1),(1,1),(2,1),(3,1),(4,1)] [.int .i64 0,.int .i64 0,.int .i64 0,.int .i64 0,.int .u32 0] := ⟨kk⟩
instance : Fld Tryz.prog 221 0 0 3 := ⟨kk⟩
instance : Fld Tryz.prog 221 1 1 3 := ⟨kk⟩
instance : Fld Tryz.prog 221 2 2 3 := ⟨kk⟩
instance : Fld Tryz.prog 221 3 3 3 := ⟨kk⟩
instance : Fld Tryz.prog 221 4 4 25 := ⟨kk⟩
instance : TyS Tryz.prog 230 3 56 := ⟨kk⟩
instance : TyZ Tryz.prog 230 (.agg #[.slice none 0 0,.int .i64 0,.slice none 0 0]) := ⟨kk⟩
instance : TyA Tryz.prog 230 3 := ⟨kk,kk⟩
instance : TyP Tryz.prog 230 [(0,1),(1,1),(2,1)] [.slice none 0 0,.int .i64 0,.slice none 0 0] := ⟨kk⟩
instance : Fld Tryz.prog 230 0 0 51 := ⟨kk⟩
instance : Fld Tryz.prog 230 1 1 3 := ⟨kk⟩
instance : Fld Tryz.prog 230 2 2 49 := ⟨kk⟩
instance : TyS Tryz.prog 231 3 56 := ⟨kk⟩
instance : TyZ Tryz.prog 231 (.agg #[.slice none 0 0,.int .i64 0,.slice none 0 0]) := ⟨kk⟩
instance : TyA Tryz.prog 231 3 := ⟨kk,kk⟩
instance : TyP Tryz.prog 231 [(0,1),(1,1),(2,1)] [.slice none 0 0,.int .i64 0,.slice none 0 0] := ⟨kk⟩
instance : Fld Tryz.prog 231 0 0 51 := ⟨kk⟩
instance : Fld Tryz.prog 231 1 1 3 := ⟨kk⟩
instance : Fld Tryz.prog 231 2 2 49 := ⟨kk⟩
instance : TyS Tryz.prog 232 1 8 := ⟨kk⟩
instance : TyZ Tryz.prog 232 (.chan none) := ⟨kk⟩
instance : TyC Tryz.prog 232 := ⟨kk,kk,kk⟩
instance : TyD Tryz.prog 236 (.pointer 246) := ⟨kk⟩
instance : TyS Tryz.prog 236 1 8 := ⟨kk⟩
instance : TyZ Tryz.prog 236 (.pointer none) := ⟨kk⟩
instance : TyC Tryz.prog 236 := ⟨kk,kk,kk⟩
instance : TyD Tryz.prog 239 (.pointer 242) := ⟨kk⟩
instance : TyS Tryz.prog 239 1 8 := ⟨kk⟩
instance : TyZ Tryz.prog 239 (.pointer none) := ⟨kk⟩
instance : TyC Tryz.prog 239 := ⟨kk,kk,kk⟩
instance : TyD Tryz.prog 240 (.array 32 3) := ⟨kk⟩
instance : TyS Tryz.prog 240 32 256 := ⟨kk⟩
instance : TyZ Tryz.prog 240 (.agg #[.int .i64 0,.int .i64 0,.int .i64 0,.int .i64 0,.int .i64 0,.int .i64 0,.int .i64 0,.int .i64 0,.int .i64 0,.int .i64 0,.int .i64 0,.int .i64 0,.int .i64 0,.int .i64 0,.int .i64 0,.int .i64 0,.int .i64 0,.int .i64 0,.int .i64 0,.int .i64 0,.int .i64 0,.int .i64 0,.int .i64 0,.int .i64 0,.int .i64 0,.int .i64 0,.int .i64 0,.int .i64 0,.int .i64 0,.int .i64 0,.int .i64 0,.int .i64 0]) := ⟨kk⟩
instance : TyA Tryz.prog 240 32 := ⟨kk,kk⟩
instance : TyS Tryz.prog 241 35 280 := ⟨kk⟩
instance : TyZ Tryz.prog 241 (.agg #[.int .i64 0,.int .i64 0,.int .i64 0,.int .i64 0,.int .i64 0,.int .i64 0,.int .i64 0,.int .i64 0,.int .i64 0,.int .i64 0,.int .i64 0,.int .i64 0,.int .i64 0,.int .i64 0,.int .i64 0,.int .i64 0,.int .i64 0,.int .i64 0,.int .i64 0,.int .i64 0,.int .i64 0,.int .i64 0,.int .i64 0,.int .i64 0,.int .i64 0,.int .i64 0,.int .i64 0,.int .i64 0,.int .i64 0,.int .i64 0,.int .i64 0,.int .i64 0,.int .i64 0,.pointer none,.pointer none]) := ⟨kk⟩
instance : TyA Tryz.prog 241 35 := ⟨kk,kk⟩
instance : TyP Tryz.prog 241 [(0,32),(32,1),(33,1),(34,1)] [.int .i64 0,.int .i64 0,.int .i64 0,.int .i64 0,.int .i64 0,.int .i64 0,.int .i64 0,.int .i64 0,.int .i64 0,.int .i64 0,.int .i64 0,.int .i64 0,.int .i64 0,.int .i64 0,.int .i64 0,.int .i64 0,.int .i64 0,.int .i64 0,.int .i64 0,.int .i64 0,.int .i64 0,.int .i64 0,.int .i64 0,.int .i64 0,.int .i64 0,.int .i64 0,.int .i64 0,.int .i64 0,.int .i64 0,.int .i64 0,.int .i64 0,.int .i64 0,.int .i64 0,.pointer none,.pointer none] := ⟨kk⟩
instance : Fld Tryz.prog 241 0 0 240 := ⟨kk⟩
instance : Fld Tryz.prog 241 1 32 3 := ⟨kk⟩
instance : Fld Tryz.prog 241 2 33 236 := ⟨kk⟩
instance : Fld Tryz.prog 241 3 34 83 := ⟨kk⟩
instance : TyS Tryz.prog 242 35 280 := ⟨kk⟩
instance : TyZ Tryz.prog 242 (.agg #[.int .i64 0,.int .i64 0,.int .i64 0,.int .i64 0,.int .i64 0,.int .i64 0,.int .i64 0,.int .i64 0,.int .i64 0,.int .i64 0,.int .i64 0,.int .i64 0,.int .i64 0,.int .i64 0,.int .i64 0,.int .i64 0,.int .i64 0,.int .i64 0,.int .i64 0,.int .i64 0,.int .i64 0,.int .i64 0,.int .i64 0,.int .i64 0,.int .i64 0,.int .i64 0,.int .i64 0,.int .i64 0,.int .i64 0,.int .i64 0,.int .i64 0,.int .i64 0,.int .i64 0,.pointer none,.pointer none]) := ⟨kk⟩
instance : TyA Tryz.prog 242 35 := ⟨kk,kk⟩
instance : TyP Tryz.prog 242 [(0,32),(32,1),(33,1),(34,1)] [.int .i64 0,.int .i64 0,.int .i64 0,.int .i64 0,.int .i64 0,.int .i64 0,.int .i64 0,.int .i64 0,.int .i64 0,.int .i64 0,.int .i64 0,.int .i64 0,.int .i64 0,.int .i64 0,.int .i64 0,.int .i64 0,.int .i64 0,.int .i64 0,.int .i64 0,.int .i64 0,.int .i64 0,.int .i64 0,.int .i64 0,.int .i64 0,.int .i64 0,.int .i64 0,.int .i64 0,.int .i64 0,.int .i64 0,.int .i64 0,.int .i64 0,.int .i64 0,.int .i64 0,.pointer none,.pointer none] := ⟨kk⟩
instance : Fld Tryz.prog 242 0 0 240 := ⟨kk⟩
instance : Fld Tryz.prog 242 1 32 3 := ⟨kk⟩
instance : Fld Tryz.prog 242 2 33 236 := ⟨kk⟩
instance : Fld Tryz.prog 242 3 34 83 := ⟨kk⟩
instance : TyD Tryz.prog 243 (.map 3 3) := ⟨kk⟩
instance : TyS Tryz.prog 243 1 8 := ⟨kk⟩
instance : TyZ Tryz.prog 243 (.map none) := ⟨kk⟩
instance : TyC Tryz.prog 243 := ⟨kk,kk,kk⟩
instance : TyD Tryz.prog 244 (.array 16 3) := ⟨kk⟩
instance : TyS Tryz.prog 244 16 128 := ⟨kk⟩
instance : TyZ Tryz.prog 244 (.agg #[.int .i64 0,.int .i64 0,.int .i64 0,.int .i64 0,.int .i64 0,.int .i64 0,.int .i64 0,.int .i64 0,.int .i64 0,.int .i64 0,.int .i64 0,.int .i64 0,.int .i64 0,.int .i64 0,.int .i64 0,.int .i64 0]) := ⟨kk⟩
instance : TyA Tryz.prog 244 16 := ⟨kk,kk⟩
instance : TyS Tryz.prog 245 20 160 := ⟨kk⟩
instance : TyZ Tryz.prog 245 (.agg #[.int .i64 0,.map none,.int .i64 0,.int .i64 0,.int .i64 0,.int .i64 0,.int .i64 0,.int .i64 0,.int .i64 0,.int .i64 0,.int .i64 0,.int .i64 0,.int .i64 0,.int .i64 0,.int .i64 0,.int .i64 0,.int .i64 0,.int .i64 0,.int .u64 0,.int .u64 0]) := ⟨kk⟩
instance : TyA Tryz.prog 245 20 := ⟨kk,kk⟩
instance : TyP Tryz.prog 245 [(0,1),(1,1),(2,16),(18,1),(19,1)] [.int .i64 0,.map none,.int .i64 0,.int .i64 0,.int .i64 0,.int .i64 0,.int .i64 0,.int .i64 0,.int .i64 0,.int .i64 0,.int .i64 0,.int .i64 0,.int .i64 0,.int .i64 0,.int .i64 0,.int .i64 0,.int .i64 0,.int .i64 0,.int .u64 0,.int .u64 0] := ⟨kk⟩
instance : Fld Tryz.prog 245 0 0 3 := ⟨kk⟩
instance : Fld Tryz.prog 245 1 1 243 := ⟨kk⟩
instance : Fld Tryz.prog 245 2 2 244 := ⟨kk⟩
instance : Fld Tryz.prog 245 3 18 143 := ⟨kk⟩
instance : Fld Tryz.prog 245 4 19 143 := ⟨kk⟩
instance : TyS Tryz.prog 246 20 160 := ⟨kk⟩
instance : TyZ Tryz.prog 246 (.agg #[.int .i64 0,.map none,.int .i64 0,.int .i64 0,.int .i64 0,.int .i64 0,.int .i64 0,.int .i64 0,.int .i64 0,.int .i64 0,.int .i64 0,.int .i64 0,.int .i64 0,.int .i64 0,.int .i64 0,.int .i64 0,.int .i64 0,.int .i64 0,.int .u64 0,.int .u64 0]) := ⟨kk⟩
instance : TyA Tryz.prog 246 20 := ⟨kk,kk⟩
instance : TyP Tryz.prog 246 [(0,1),(1,1),(2,16),(18,1),(19,1)] [.int .i64 0,.map none,.int .i64 0,.int .i64 0,.int .i64 0,.int .i64 0,.int .i64 0,.int .i64 0,.int .i64 0,.int .i64 0,.int .i64 0,.int .i64 0,.int .i64 0,.int .i64 0,.int .i64 0,.int .i64 0,.int .i64 0,.int .i64 0,.int .u64 0,.int .u64 0] := ⟨kk⟩
instance : Fld Tryz.prog 246 0 0 3 := ⟨kk⟩
instance : Fld Tryz.prog 246 1 1 243 := ⟨kk⟩
instance : Fld Tryz.prog 246 2 2 244 := ⟨kk⟩
instance : Fld Tryz.prog 246 3 18 143 := ⟨kk⟩
instance : Fld Tryz.prog 246 4 19 143 := ⟨kk⟩
instance : TyS Tryz.prog 247 7 48 := ⟨kk⟩
instance : TyZ Tryz.prog 247 (.agg #[.int .i64 0,.int .i64 0,.int .i64 0,.int .i64 0,.int .i64 0,.bool false,.bool false]) := ⟨kk⟩
instance : TyA Tryz.prog 247 7 := ⟨kk,kk⟩
instance : TyP Tryz.prog 247 [(0,1),(1,1),(2,1),(3,1),(4,1),(5,1),(6,1)] [.int .i64 0,.int .i64 0,.int .i64 0,.int .i64 0,.int .i64 0,.bool false,.bool false] := ⟨kk⟩
instance : Fld Tryz.prog 247 0 0 3 := ⟨kk⟩
instance : Fld Tryz.prog 247 1 1 3 := ⟨kk⟩
instance : Fld Tryz.prog 247 2 2 3 := ⟨kk⟩
instance : Fld Tryz.prog 247 3 3 3 := ⟨kk⟩
instance : Fld Tryz.prog 247 4 4 3 := ⟨kk⟩
instance : Fld Tryz.prog 247 5 5 4 := ⟨kk⟩
instance : Fld Tryz.prog 247 6 6 4 := ⟨kk⟩
instance : TyS Tryz.prog 248 7 48 := ⟨kk⟩
instance : TyZ Tryz.prog 248 (.agg #[.int .i64 0,.int .i64 0,.int .i64 0,.int .i64 0,.int .i64 0,.bool false,.bool false]) := ⟨kk⟩
instance : TyA Tryz.prog 248 7 := ⟨kk,kk⟩
instance : TyP Tryz.prog 248 [(0,1),(1,1),(2,1),(3,1),(4,1),(5,1),(6,1)] [.int .i64 0,.int .i64 0,.int .i64 0,.int .i64 0,.int .i64 0,.bool false,.bool false] := ⟨kk⟩
instance : Fld Tryz.prog 248 0 0 3 := ⟨kk⟩
instance : Fld Tryz.prog 248 1 1 3 := ⟨kk⟩
instance : Fld Tryz.prog 248 2 2 3 := ⟨kk⟩
instance : Fld Tryz.prog 248 3 3 3 := ⟨kk⟩
instance : Fld Tryz.prog 248 4 4 3 := ⟨kk⟩
instance : Fld Tryz.prog 248 5 5 4 := ⟨kk⟩
instance : Fld Tryz.prog 248 6 6 4 := ⟨kk⟩
instance : TyD Tryz.prog 253 (.slice 232) := ⟨kk⟩
instance : TyS Tryz.prog 253 1 24 := ⟨kk⟩
instance : TyZ Tryz.prog 253 (.slice none 0 0) := ⟨kk⟩
instance : TyC Tryz.prog 253 := ⟨kk,kk,kk⟩
instance : TyS Tryz.prog 254 1 24 := ⟨kk⟩
instance : TyZ Tryz.prog 254 (.agg #[.slice none 0 0]) := ⟨kk⟩
instance : TyA Tryz.prog 254 1 := ⟨kk,kk⟩
instance : TyP Tryz.prog 254 [(0,1)] [.slice none 0 0] := ⟨kk⟩
instance : Fld Tryz.prog 254 0 0 253 := ⟨kk⟩
instance : TyS Tryz.prog 255 1 24 := ⟨kk⟩
instance : TyZ Tryz.prog 255 (.agg #[.slice none 0 0]) := ⟨kk⟩
instance : TyA Tryz.prog 255 1 := ⟨kk,kk⟩
instance : TyP Tryz.prog 255 [(0,1)] [.slice none 0 0] := ⟨kk⟩
instance : Fld Tryz.prog 255 0 0 253 := ⟨kk⟩
instance : TyD Tryz.prog 256 (.pointer 311) := ⟨kk⟩
instance : TyS Tryz.prog 256 1 8 := ⟨kk⟩
instance : TyZ Tryz.prog 256 (.pointer none) := ⟨kk⟩
instance : TyC Tryz.prog 256 := ⟨kk,kk,kk⟩
instance : TyS Tryz.prog 260 2 32 := ⟨kk⟩
instance : TyZ Tryz.prog 260 (.agg #[.slice none 0 0,.bool false]) := ⟨kk⟩
instance : TyA Tryz.prog 260 2 := ⟨kk,kk⟩
instance : TyP Tryz.prog 260 [(0,1),(1,1)] [.slice none 0 0,.bool false] := ⟨kk⟩
instance : Fld Tryz.prog 260 0 0 27 := ⟨kk⟩
instance : Fld Tryz.prog 260 1 1 4 := ⟨kk⟩
instance : TyS Tryz.prog 261 2 32 := ⟨kk⟩
instance : TyZ Tryz.prog 261 (.agg #[.slice none 0 0,.bool false]) := ⟨kk⟩
instance : TyA Tryz.prog 261 2 := ⟨kk,kk⟩
instance : TyP Tryz.prog 261 [(0,1),(1,1)] [.slice none 0 0,.bool false] := ⟨kk⟩
instance : Fld Tryz.prog 261 0 0 27 := ⟨kk⟩
instance : Fld Tryz.prog 261 1 1 4 := ⟨kk⟩
instance : TyS Tryz.prog 288 5 40 := ⟨kk⟩
instance : TyZ Tryz.prog 288 (.agg #[.int .i64 0,.int .i64 0,.int .i64 0,.int .i64 0,.int .i64 0]) := ⟨kk⟩
instance : TyA Tryz.prog 288 5 := ⟨kk,kk⟩
instance : TyP Tryz.prog 288 [(0,1),(1,1),(2,1),(3,1),(4,1)] [.int .i64 0,.int .i64 0,.int .i64 0,.int .i64 0,.int .i64 0] := ⟨kk⟩
instance : Fld Tryz.prog 288 0 0 3 := ⟨kk⟩
instance : Fld Tryz.prog 288 1 1 3 := ⟨kk⟩
instance : Fld Tryz.prog 288 2 2 3 := ⟨kk⟩
instance : Fld Tryz.prog 288 3 3 3 := ⟨kk⟩
instance : Fld Tryz.prog 288 4 4 3 := ⟨kk⟩
instance : TyS Tryz.prog 289 5 40 := ⟨kk⟩
instance : TyZ Tryz.prog 289 (.agg #[.int .i64 0,.int .i64 0,.int .i64 0,.int .i64 0,.int .i64 0]) := ⟨kk⟩
instance : TyA Tryz.prog 289 5 := ⟨kk,kk⟩
instance : TyP Tryz.prog 289 [(0,1),(1,1),(2,1),(3,1),(4,1)] [.int .i64 0,.int .i64 0,.int .i64 0,.int .i64 0,.int .i64 0] := ⟨kk⟩
instance : Fld Tryz.prog 289 0 0 3 := ⟨kk⟩
instance : Fld Tryz.prog 289 1 1 3 := ⟨kk⟩
instance : Fld Tryz.prog 289 2 2 3 := ⟨kk⟩
instance : Fld Tryz.prog 289 3 3 3 := ⟨kk⟩
instance : Fld Tryz.prog 289 4 4 3 := ⟨kk⟩
instance : TyS Tryz.prog 291 2 24 := ⟨kk⟩
instance : TyZ Tryz.prog 291 (.agg #[.string ⟨#[]⟩,.int .i64 0]) := ⟨kk⟩
instance : TyA Tryz.prog 291 2 := ⟨kk,kk⟩
instance : TyP Tryz.prog 291 [(0,1),(1,1)] [.string ⟨#[]⟩,.int .i64 0] := ⟨kk⟩
instance : Fld Tryz.prog 291 0 0 9 := ⟨kk⟩
instance : Fld Tryz.prog 291 1 1 3 := ⟨kk⟩
instance : TyS Tryz.prog 292 2 24 := ⟨kk⟩
instance : TyZ Tryz.prog 292 (.agg #[.string ⟨#[]⟩,.int .i64 0]) := ⟨kk⟩
instance : TyA Tryz.prog 292 2 := ⟨kk,kk⟩
instance : TyP Tryz.prog 292 [(0,1),(1,1)] [.string ⟨#[]⟩,.int .i64 0] := ⟨kk⟩
instance : Fld Tryz.prog 292 0 0 9 := ⟨kk⟩
instance : Fld Tryz.prog 292 1 1 3 := ⟨kk⟩
instance : TyD Tryz.prog 293 (.slice 292) := ⟨kk⟩
instance : TyS Tryz.prog 293 1 24 := ⟨kk⟩
instance : TyZ Tryz.prog 293 (.slice none 0 0) := ⟨kk⟩
instance : TyC Tryz.prog 293 := ⟨kk,kk,kk⟩
instance : TyD Tryz.prog 306 (.pointer 240) := ⟨kk⟩
instance : TyS Tryz.prog 306 1 8 := ⟨kk⟩
instance : TyZ Tryz.prog 306 (.pointer none) := ⟨kk⟩
instance : TyC Tryz.prog 306 := ⟨kk,kk,kk⟩
instance : TyD Tryz.prog 308 (.array 8 25) := ⟨kk⟩
instance : TyS Tryz.prog 308 8 32 := ⟨kk⟩
instance : TyZ Tryz.prog 308 (.agg #[.int .u32 0,.int .u32 0,.int .u32 0,.int .u32 0,.int .u32 0,.int .u32 0,.int .u32 0,.int .u32 0]) := ⟨kk⟩
instance : TyA Tryz.prog 308 8 := ⟨kk,kk⟩
instance : TyD Tryz.prog 309 (.array 64 5) := ⟨kk⟩
instance : TyS Tryz.prog 309 64 64 := ⟨kk⟩
instance : TyZ Tryz.prog 309 (.agg #[.int .u8 0,.int .u8 0,.int .u8 0,.int .u8 0,.int .u8 0,.int .u8 0,.int .u8 0,.int .u8 0,.int .u8 0,.int .u8 0,.int .u8 0,.int .u8 0,.int .u8 0,.int .u8 0,.int .u8 0,.int .u8 0,.int .u8 0,.int .u8 0,.int .u8 0,.int .u8 0,.int .u8 0,.int .u8 0,.int .u8 0,.int .u8 0,.int .u8 0,.int .u8 0,.int .u8 0,.int .u8 0,.int .u8 0,.int .u8 0,.int .u8 0,.int .u8 0,.int .u8 0,.int .u8 0,.int .u8 0,.int .u8 0,.int .u8 0,.int .u8 0,.int .u8 0,.int .u8 0,.int .u8 0,.int .u8 0,.int .u8 0,.int .u8 0,.int .u8 0,.int .u8 0,.int .u8 0,.int .u8 0,.int .u8 0,.int .u8 0,.int .u8 0,.int .u8 0,.int .u8 0,.int .u8 0,.int .u8 0,.int .u8 0,.int .u8 0,.int .u8 0,.int .u8 0,.int .u8 0,.int .u8 0,.int .u8 0,.int .u8 0,.int .u8 0]) := ⟨kk⟩
instance : TyA Tryz.prog 309 64 := ⟨kk,kk⟩
instance : TyS Tryz.prog 310 73 104 := ⟨kk⟩
instance : TyA Tryz.prog 310 73 := ⟨kk,kk⟩
instance : Fld Tryz.prog 310 0 0 308 := ⟨kk⟩
instance : Fld Tryz.prog 310 1 8 309 := ⟨kk⟩
instance : Fld Tryz.prog 310 2 72 143 := ⟨kk⟩
instance : TyS Tryz.prog 311 73 104 := ⟨kk⟩
instance : TyA Tryz.prog 311 73 := ⟨kk,kk⟩
instance : Fld Tryz.prog 311 0 0 308 := ⟨kk⟩
instance : Fld Tryz.prog 311 1 8 309 := ⟨kk⟩
instance : Fld Tryz.prog 311 2 72 143 := ⟨kk⟩
instance : TyD Tryz.prog 328 (.array 4 3) := ⟨kk⟩
instance : TyS Tryz.prog 328 4 32 := ⟨kk⟩
instance : TyZ Tryz.prog 328 (.agg #[.int .i64 0,.int .i64 0,.int .i64 0,.int .i64 0]) := ⟨kk⟩
instance : TyA Tryz.prog 328 4 := ⟨kk,kk⟩
instance : TyD Tryz.prog 334 (.array 64 25) := ⟨kk⟩
instance : TyS Tryz.prog 334 64 256 := ⟨kk⟩
instance : TyZ Tryz.prog 334 (.agg #[.int .u32 0,.int .u32 0,.int .u32 0,.int .u32 0,.int .u32 0,.int .u32 0,.int .u32 0,.int .u32 0,.int .u32 0,.int .u32 0,.int .u32 0,.int .u32 0,.int .u32 0,.int .u32 0,.int .u32 0,.int .u32 0,.int .u32 0,.int .u32 0,.int .u32 0,.int .u32 0,.int .u32 0,.int .u32 0,.int .u32 0,.int .u32 0,.int .u32 0,.int .u32 0,.int .u32 0,.int .u32 0,.int .u32 0,.int .u32 0,.int .u32 0,.int .u32 0,.int .u32 0,.int .u32 0,.int .u32 0,.int .u32 0,.int .u32 0,.int .u32 0,.int .u32 0,.int .u32 0,.int .u32 0,.int .u32 0,.int .u32 0,.int .u32 0,.int .u32 0,.int .u32 0,.int .u32 0,.int .u32 0,.int .u32 0,.int .u32 0,.int .u32 0,.int .u32 0,.int .u32 0,.int .u32 0,.int .u32 0,.int .u32 0,.int .u32 0,.int .u32 0,.int .u32 0,.int .u32 0,.int .u32 0,.int .u32 0,.int .u32 0,.int .u32 0]) := ⟨kk⟩
instance : TyA Tryz.prog 334 64 := ⟨kk,kk⟩
instance : TyD Tryz.prog 335 (.array 8 143) := ⟨kk⟩
instance : TyS Tryz.prog 335 8 64 := ⟨kk⟩
instance : TyZ Tryz.prog 335 (.agg #[.int .u64 0,.int .u64 0,.int .u64 0,.int .u64 0,.int .u64 0,.int .u64 0,.int .u64 0,.int .u64 0]) := ⟨kk⟩
instance : TyA Tryz.prog 335 8 := ⟨kk,kk⟩
instance : TyD Tryz.prog 336 (.int .i8) := ⟨kk⟩
instance : TyS Tryz.prog 336 1 1 := ⟨kk⟩
instance : TyZ Tryz.prog 336 (.int .i8 0) := ⟨kk⟩
instance : TyC Tryz.prog 336 := ⟨kk,kk,kk⟩
instance : TyD Tryz.prog 337 (.int .i16) := ⟨kk⟩
instance : TyS Tryz.prog 337 1 2 := ⟨kk⟩
instance : TyZ Tryz.prog 337 (.int .i16 0) := ⟨kk⟩
instance : TyC Tryz.prog 337 := ⟨kk,kk,kk⟩
instance : TyS Tryz.prog 340 4 40 := ⟨kk⟩
instance : TyZ Tryz.prog 340 (.agg #[.pointer none,.pointer none,.pointer none,.string ⟨#[]⟩]) := ⟨kk⟩
instance : TyA Tryz.prog 340 4 := ⟨kk,kk⟩
instance : TyP Tryz.prog 340 [(0,1),(1,1),(2,1),(3,1)] [.pointer none,.pointer none,.pointer none,.string ⟨#[]⟩] := ⟨kk⟩
instance : Fld Tryz.prog 340 0 0 17 := ⟨kk⟩
instance : Fld Tryz.prog 340 1 1 17 := ⟨kk⟩
instance : Fld Tryz.prog 340 2 2 17 := ⟨kk⟩
instance : Fld Tryz.prog 340 3 3 9 := ⟨kk⟩
instance : TyS Tryz.prog 341 4 40 := ⟨kk⟩
instance : TyZ Tryz.prog 341 (.agg #[.pointer none,.pointer none,.pointer none,.string ⟨#[]⟩]) := ⟨kk⟩
instance : TyA Tryz.prog 341 4 := ⟨kk,kk⟩
instance : TyP Tryz.prog 341 [(0,1),(1,1),(2,1),(3,1)] [.pointer none,.pointer none,.pointer none,.string ⟨#[]⟩] := ⟨kk⟩
instance : Fld Tryz.prog 341 0 0 17 := ⟨kk⟩
instance : Fld Tryz.prog 341 1 1 17 := ⟨kk⟩
instance : Fld Tryz.prog 341 2 2 17 := ⟨kk⟩
instance : Fld Tryz.prog 341 3 3 9 := ⟨kk⟩
instance : TyD Tryz.prog 342 (.array 0 16) := ⟨kk⟩
instance : TyS Tryz.prog 342 0 0 := ⟨kk⟩
instance : TyZ Tryz.prog 342 (.agg #[]) := ⟨kk⟩
instance : TyA Tryz.prog 342 0 := ⟨kk,kk⟩
instance : TyS Tryz.prog 343 0 0 := ⟨kk⟩
instance : TyZ Tryz.prog 343 (.agg #[]) := ⟨kk⟩
instance : TyA Tryz.prog 343 0 := ⟨kk,kk⟩
instance : TyP Tryz.prog 343 [(0,0)] [] := ⟨kk⟩
instance : TyS Tryz.prog 344 0 0 := ⟨kk⟩
instance : TyZ Tryz.prog 344 (.agg #[]) := ⟨kk⟩
instance : TyA Tryz.prog 344 0 := ⟨kk,kk⟩
instance : TyP Tryz.prog 344 [(0,0)] [] := ⟨kk⟩
instance : TyD Tryz.prog 345 (.int .u8) := ⟨kk⟩
instance : TyS Tryz.prog 345 1 1 := ⟨kk⟩
instance : TyZ Tryz.prog 345 (.int .u8 0) := ⟨kk⟩
instance : TyC Tryz.prog 345 := ⟨kk,kk,kk⟩
instance : TyD Tryz.prog 346 (.int .u8) := ⟨kk⟩
instance : TyS Tryz.prog 346 1 1 := ⟨kk⟩
instance : TyZ Tryz.prog 346 (.int .u8 0) := ⟨kk⟩
instance : TyC Tryz.prog 346 := ⟨kk,kk,kk⟩
instance : TyD Tryz.prog 348 (.pointer 5) := ⟨kk⟩
instance : TyS Tryz.prog 348 1 8 := ⟨kk⟩
instance : TyZ Tryz.prog 348 (.pointer none) := ⟨kk⟩
instance : TyC Tryz.prog 348 := ⟨kk,kk,kk⟩
instance : TyD Tryz.prog 349 (.int .i32) := ⟨kk⟩
instance : TyS Tryz.prog 349 1 4 := ⟨kk⟩
instance : TyZ Tryz.prog 349 (.int .i32 0) := ⟨kk⟩
instance : TyC Tryz.prog 349 := ⟨kk,kk,kk⟩
instance : TyD Tryz.prog 350 (.int .i32) := ⟨kk⟩
instance : TyS Tryz.prog 350 1 4 := ⟨kk⟩
instance : TyZ Tryz.prog 350 (.int .i32 0) := ⟨kk⟩
instance : TyC Tryz.prog 350 := ⟨kk,kk,kk⟩
instance : TyS Tryz.prog 351 11 48 := ⟨kk⟩
instance : TyZ Tryz.prog 351 (.agg #[.int .u64 0,.int .u64 0,.int .u32 0,.int .u8 0,.int .u8 0,.int .u8 0,.int .u8 0,.nilFunc,.pointer none,.int .i32 0,.int .i32 0]) := ⟨kk⟩
instance : TyA Tryz.prog 351 11 := ⟨kk,kk⟩
instance : Fld Tryz.prog 351 0 0 12 := ⟨kk⟩
instance : Fld Tryz.prog 351 1 1 12 := ⟨kk⟩
instance : Fld Tryz.prog 351 2 2 25 := ⟨kk⟩
instance : Fld Tryz.prog 351 3 3 345 := ⟨kk⟩
instance : Fld Tryz.prog 351 4 4 5 := ⟨kk⟩
instance : Fld Tryz.prog 351 5 5 5 := ⟨kk⟩
instance : Fld Tryz.prog 351 6 6 346 := ⟨kk⟩
instance : Fld Tryz.prog 351 8 8 348 := ⟨kk⟩
instance : Fld Tryz.prog 351 9 9 349 := ⟨kk⟩
instance : Fld Tryz.prog 351 10 10 350 := ⟨kk⟩
instance : TyS Tryz.prog 352 11 48 := ⟨kk⟩
instance : TyZ Tryz.prog 352 (.agg #[.int .u64 0,.int .u64 0,.int .u32 0,.int .u8 0,.int .u8 0,.int .u8 0,.int .u8 0,.nilFunc,.pointer none,.int .i32 0,.int .i32 0]) := ⟨kk⟩
instance : TyA Tryz.prog 352 11 := ⟨kk,kk⟩
instance : Fld Tryz.prog 352 0 0 12 := ⟨kk⟩
instance : Fld Tryz.prog 352 1 1 12 := ⟨kk⟩
instance : Fld Tryz.prog 352 2 2 25 := ⟨kk⟩
instance : Fld Tryz.prog 352 3 3 345 := ⟨kk⟩
instance : Fld Tryz.prog 352 4 4 5 := ⟨kk⟩
instance : Fld Tryz.prog 352 5 5 5 := ⟨kk⟩
instance : Fld Tryz.prog 352 6 6 346 := ⟨kk⟩
instance : Fld Tryz.prog 352 8 8 348 := ⟨kk⟩
instance : Fld Tryz.prog 352 9 9 349 := ⟨kk⟩
instance : Fld Tryz.prog 352 10 10 350 := ⟨kk⟩
instance : TyS Tryz.prog 353 1 8 := ⟨kk⟩
instance : TyZ Tryz.prog 353 (.pointer none) := ⟨kk⟩
instance : TyC Tryz.prog 353 := ⟨kk,kk,kk⟩
instance : Ent Tryz.prog 3 := ent_of Tryz.func3 kj kj
instance : FnE Tryz.prog 3 Tryz.f3 95 := ⟨Tryz.func3,Tryz.ntmps3⟩
instance : Ent Tryz.prog 4 := ent_of Tryz.func4 kj kj
instance : FnE Tryz.prog 4 Tryz.f4 136 := ⟨Tryz.func4,Tryz.ntmps4⟩
instance : Ent Tryz.prog 5 := ent_of Tryz.func5 kj kj
instance : FnE Tryz.prog 5 Tryz.f5 153 := ⟨Tryz.func5,Tryz.ntmps5⟩
instance : Ent Tryz.prog 6 := ent_of Tryz.func6 kj kj
instance : FnE Tryz.prog 6 Tryz.f6 139 := ⟨Tryz.func6,Tryz.ntmps6⟩
instance : Ent Tryz.prog 7 := ent_of Tryz.func7 kj kj
instance : FnE Tryz.prog 7 Tryz.f7 225 := ⟨Tryz.func7,Tryz.ntmps7⟩
instance : Ent Tryz.prog 8 := ent_of Tryz.func8 kj kj
instance : FnE Tryz.prog 8 Tryz.f8 106 := ⟨Tryz.func8,Tryz.ntmps8⟩
instance : Ent Tryz.prog 9 := ent_of Tryz.func9 kj kj
instance : FnE Tryz.prog 9 Tryz.f9 148 := ⟨Tryz.func9,Tryz.ntmps9⟩
instance : Ent Tryz.prog 10 := ent_of Tryz.func10 kj kj
instance : FnE Tryz.prog 10 Tryz.f10 35 := ⟨Tryz.func10,Tryz.ntmps10⟩
instance : Ent Tryz.prog 11 := ent_of Tryz.func11 kj kj
instance : FnE Tryz.prog 11 Tryz.f11 81 := ⟨Tryz.func11,Tryz.ntmps11⟩
instance : Ent Tryz.prog 12 := ent_of Tryz.func12 kj kj
instance : FnE Tryz.prog 12 Tryz.f12 154 := ⟨Tryz.func12,Tryz.ntmps12⟩
instance : Ent Tryz.prog 13 := ent_of Tryz.func13 kj kj
instance : FnE Tryz.prog 13 Tryz.f13 129 := ⟨Tryz.func13,Tryz.ntmps13⟩
instance : Ent Tryz.prog 14 := ent_of Tryz.func14 kj kj
instance : FnE Tryz.prog 14 Tryz.f14 34 := ⟨Tryz.func14,Tryz.ntmps14⟩
instance : Ent Tryz.prog 15 := ent_of Tryz.func15 kj kj
instance : FnE Tryz.prog 15 Tryz.f15 194 := ⟨Tryz.func15,Tryz.ntmps15⟩
instance : Ent Tryz.prog 16 := ent_of Tryz.func16 kj kj
instance : FnE Tryz.prog 16 Tryz.f16 238 := ⟨Tryz.func16,Tryz.ntmps16⟩
instance : Ent Tryz.prog 17 := ent_of Tryz.func17 kj kj
instance : FnE Tryz.prog 17 Tryz.f17 8 := ⟨Tryz.func17,Tryz.ntmps17⟩
instance : Ent Tryz.prog 18 := ent_of Tryz.func18 kj kj
instance : FnE Tryz.prog 18 Tryz.f18 14 := ⟨Tryz.func18,Tryz.ntmps18⟩
instance : Ent Tryz.prog 19 := ent_of Tryz.func19 kj kj
instance : FnE Tryz.prog 19 Tryz.f19 50 := ⟨Tryz.func19,Tryz.ntmps19⟩
instance : Ent Tryz.prog 20 := ent_of Tryz.func20 kj kj
instance : FnE Tryz.prog 20 Tryz.f20 79 := ⟨Tryz.func20,Tryz.ntmps20⟩
instance : Ent Tryz.prog 21 := ent_of Tryz.func21 kj kj
instance : FnE Tryz.prog 21 Tryz.f21 9 := ⟨Tryz.func21,Tryz.ntmps21⟩
instance : Ent Tryz.prog 22 := ent_of Tryz.func22 kj kj
instance : FnE Tryz.prog 22 Tryz.f22 10 := ⟨Tryz.func22,Tryz.ntmps22⟩
instance : Ent Tryz.prog 23 := ent_of Tryz.func23 kj kj
instance : FnE Tryz.prog 23 Tryz.f23 13 := ⟨Tryz.func23,Tryz.ntmps23⟩
instance : Ent Tryz.prog 24 := ent_of Tryz.func24 kj kj
instance : FnE Tryz.prog 24 Tryz.f24 24 := ⟨Tryz.func24,Tryz.ntmps24⟩
instance : Ent Tryz.prog 25 := ent_of Tryz.func25 kj kj
instance : FnE Tryz.prog 25 Tryz.f25 67 := ⟨Tryz.func25,Tryz.ntmps25⟩
instance : Ent Tryz.prog 26 := ent_of Tryz.func26 kj kj
instance : FnE Tryz.prog 26 Tryz.f26 34 := ⟨Tryz.func26,Tryz.ntmps26⟩
instance : Ent Tryz.prog 27 := ent_of Tryz.func27 kj kj
instance : FnE Tryz.prog 27 Tryz.f27 10 := ⟨Tryz.func27,Tryz.ntmps27⟩
instance : Ent Tryz.prog 28 := ent_of Tryz.func28 kj kj
instance : FnE Tryz.prog 28 Tryz.f28 19 := ⟨Tryz.func28,Tryz.ntmps28⟩
instance : Ent Tryz.prog 29 := ent_of Tryz.func29 kj kj
instance : FnE Tryz.prog 29 Tryz.f29 160 := ⟨Tryz.func29,Tryz.ntmps29⟩
instance : Ent Tryz.prog 30 := ent_of Tryz.func30 kj kj
instance : FnE Tryz.prog 30 Tryz.f30 16 := ⟨Tryz.func30,Tryz.ntmps30⟩
instance : Ent Tryz.prog 31 := ent_of Tryz.func31 kj kj
instance : FnE Tryz.prog 31 Tryz.f31 16 := ⟨Tryz.func31,Tryz.ntmps31⟩
instance : Ent Tryz.prog 32 := ent_of Tryz.func32 kj kj
instance : FnE Tryz.prog 32 Tryz.f32 13 := ⟨Tryz.func32,Tryz.ntmps32⟩
instance : Ent Tryz.prog 33 := ent_of Tryz.func33 kj kj
instance : FnE Tryz.prog 33 Tryz.f33 40 := ⟨Tryz.func33,Tryz.ntmps33⟩
instance : Ent Tryz.prog 34 := ent_of Tryz.func34 kj kj
instance : FnE Tryz.prog 34 Tryz.f34 25 := ⟨Tryz.func34,Tryz.ntmps34⟩
instance : Ent Tryz.prog 35 := ent_of Tryz.func35 kj kj
instance : FnE Tryz.prog 35 Tryz.f35 60 := ⟨Tryz.func35,Tryz.ntmps35⟩
instance : Ent Tryz.prog 36 := ent_of Tryz.func36 kj kj
instance : FnE Tryz.prog 36 Tryz.f36 170 := ⟨Tryz.func36,Tryz.ntmps36⟩
instance : Ent Tryz.prog 37 := ent_of Tryz.func37 kj kj
instance : FnE Tryz.prog 37 Tryz.f37 42 := ⟨Tryz.func37,Tryz.ntmps37⟩
instance : Ent Tryz.prog 38 := ent_of Tryz.func38 kj kj
instance : FnE Tryz.prog 38 Tryz.f38 10 := ⟨Tryz.func38,Tryz.ntmps38⟩
instance : Ent Tryz.prog 39 := ent_of Tryz.func39 kj kj
instance : FnE Tryz.prog 39 Tryz.f39 46 := ⟨Tryz.func39,Tryz.ntmps39⟩
instance : Ent Tryz.prog 40 := ent_of Tryz.func40 kj kj
instance : FnE Tryz.prog 40 Tryz.f40 65 := ⟨Tryz.func40,Tryz.ntmps40⟩
instance : Ent Tryz.prog 41 := ent_of Tryz.func41 kj kj
instance : FnE Tryz.prog 41 Tryz.f41 3 := ⟨Tryz.func41,Tryz.ntmps41⟩
instance : Ent Tryz.prog 42 := ent_of Tryz.func42 kj kj
instance : FnE Tryz.prog 42 Tryz.f42 32 := ⟨Tryz.func42,Tryz.ntmps42⟩
instance : Ent Tryz.prog 43 := ent_of Tryz.func43 kj kj
instance : FnE Tryz.prog 43 Tryz.f43 181 := ⟨Tryz.func43,Tryz.ntmps43⟩
instance : Ent Tryz.prog 44 := ent_of Tryz.func44 kj kj
instance : FnE Tryz.prog 44 Tryz.f44 130 := ⟨Tryz.func44,Tryz.ntmps44⟩
instance : Ent Tryz.prog 45 := ent_of Tryz.func45 kj kj
instance : FnE Tryz.prog 45 Tryz.f45 271 := ⟨Tryz.func45,Tryz.ntmps45⟩
instance : Ent Tryz.prog 46 := ent_of Tryz.func46 kj kj
instance : FnE Tryz.prog 46 Tryz.f46 29 := ⟨Tryz.func46,Tryz.ntmps46⟩
instance : Ent Tryz.prog 47 := ent_of Tryz.func47 kj kj
instance : FnE Tryz.prog 47 Tryz.f47 51 := ⟨Tryz.func47,Tryz.ntmps47⟩
instance : Ent Tryz.prog 48 := ent_of Tryz.func48 kj kj
instance : FnE Tryz.prog 48 Tryz.f48 151 := ⟨Tryz.func48,Tryz.ntmps48⟩
instance : Ent Tryz.prog 49 := ent_of Tryz.func49 kj kj
instance : FnE Tryz.prog 49 Tryz.f49 260 := ⟨Tryz.func49,Tryz.ntmps49⟩
instance : Ent Tryz.prog 50 := ent_of Tryz.func50 kj kj
instance : FnE Tryz.prog 50 Tryz.f50 4 := ⟨Tryz.func50,Tryz.ntmps50⟩
instance : Ent Tryz.prog 51 := ent_of Tryz.func51 kj kj
instance : FnE Tryz.prog 51 Tryz.f51 47 := ⟨Tryz.func51,Tryz.ntmps51⟩
instance : Ent Tryz.prog 52 := ent_of Tryz.func52 kj kj
instance : FnE Tryz.prog 52 Tryz.f52 38 := ⟨Tryz.func52,Tryz.ntmps52⟩
instance : Ent Tryz.prog 53 := ent_of Tryz.func53 kj kj
instance : FnE Tryz.prog 53 Tryz.f53 28 := ⟨Tryz.func53,Tryz.ntmps53⟩
instance : Ent Tryz.prog 54 := ent_of Tryz.func54 kj kj
instance : FnE Tryz.prog 54 Tryz.f54 30 := ⟨Tryz.func54,Tryz.ntmps54⟩
instance : Ent Tryz.prog 55 := ent_of Tryz.func55 kj kj
instance : FnE Tryz.prog 55 Tryz.f55 61 := ⟨Tryz.func55,Tryz.ntmps55⟩
instance : Ent Tryz.prog 56 := ent_of Tryz.func56 kj kj
instance : FnE Tryz.prog 56 Tryz.f56 29 := ⟨Tryz.func56,Tryz.ntmps56⟩
instance : Ent Tryz.prog 57 := ent_of Tryz.func57 kj kj
instance : FnE Tryz.prog 57 Tryz.f57 118 := ⟨Tryz.func57,Tryz.ntmps57⟩
instance : Ent Tryz.prog 58 := ent_of Tryz.func58 kj kj
instance : FnE Tryz.prog 58 Tryz.f58 16 := ⟨Tryz.func58,Tryz.ntmps58⟩
instance : Ent Tryz.prog 59 := ent_of Tryz.func59 kj kj
instance : FnE Tryz.prog 59 Tryz.f59 28 := ⟨Tryz.func59,Tryz.ntmps59⟩
instance : Ent Tryz.prog 60 := ent_of Tryz.func60 kj kj
instance : FnE Tryz.prog 60 Tryz.f60 3 := ⟨Tryz.func60,Tryz.ntmps60⟩
instance : Ent Tryz.prog 61 := ent_of Tryz.func61 kj kj
instance : FnE Tryz.prog 61 Tryz.f61 51 := ⟨Tryz.func61,Tryz.ntmps61⟩
instance : Ent Tryz.prog 62 := ent_of Tryz.func62 kj kj
instance : FnE Tryz.prog 62 Tryz.f62 181 := ⟨Tryz.func62,Tryz.ntmps62⟩
instance : Ent Tryz.prog 63 := ent_of Tryz.func63 kj kj
instance : FnE Tryz.prog 63 Tryz.f63 68 := ⟨Tryz.func63,Tryz.ntmps63⟩
instance : Ent Tryz.prog 64 := ent_of Tryz.func64 kj kj
instance : FnE Tryz.prog 64 Tryz.f64 16 := ⟨Tryz.func64,Tryz.ntmps64⟩
instance : Ent Tryz.prog 65 := ent_of Tryz.func65 kj kj
instance : FnE Tryz.prog 65 Tryz.f65 29 := ⟨Tryz.func65,Tryz.ntmps65⟩
instance : Ent Tryz.prog 66 := ent_of Tryz.func66 kj kj
instance : FnE Tryz.prog 66 Tryz.f66 157 := ⟨Tryz.func66,Tryz.ntmps66⟩
instance : Ent Tryz.prog 67 := ent_of Tryz.func67 kj kj
instance : FnE Tryz.prog 67 Tryz.f67 17 := ⟨Tryz.func67,Tryz.ntmps67⟩
instance : Ent Tryz.prog 68 := ent_of Tryz.func68 kj kj
instance : FnE Tryz.prog 68 Tryz.f68 28 := ⟨Tryz.func68,Tryz.ntmps68⟩
instance : Ent Tryz.prog 69 := ent_of Tryz.func69 kj kj
instance : FnE Tryz.prog 69 Tryz.f69 47 := ⟨Tryz.func69,Tryz.ntmps69⟩
instance : Ent Tryz.prog 70 := ent_of Tryz.func70 kj kj
instance : FnE Tryz.prog 70 Tryz.f70 50 := ⟨Tryz.func70,Tryz.ntmps70⟩
instance : Ent Tryz.prog 71 := ent_of Tryz.func71 kj kj
instance : FnE Tryz.prog 71 Tryz.f71 10 := ⟨Tryz.func71,Tryz.ntmps71⟩
instance : Ent Tryz.prog 72 := ent_of Tryz.func72 kj kj
instance : FnE Tryz.prog 72 Tryz.f72 9 := ⟨Tryz.func72,Tryz.ntmps72⟩
instance : Ent Tryz.prog 73 := ent_of Tryz.func73 kj kj
instance : FnE Tryz.prog 73 Tryz.f73 10 := ⟨Tryz.func73,Tryz.ntmps73⟩
instance : Ent Tryz.prog 74 := ent_of Tryz.func74 kj kj
instance : FnE Tryz.prog 74 Tryz.f74 16 := ⟨Tryz.func74,Tryz.ntmps74⟩
instance : Ent Tryz.prog 75 := ent_of Tryz.func75 kj kj
instance : FnE Tryz.prog 75 Tryz.f75 25 := ⟨Tryz.func75,Tryz.ntmps75⟩
instance : Ent Tryz.prog 76 := ent_of Tryz.func76 kj kj
instance : FnE Tryz.prog 76 Tryz.f76 14 := ⟨Tryz.func76,Tryz.ntmps76⟩
instance : Ent Tryz.prog 77 := ent_of Tryz.func77 kj kj
instance : FnE Tryz.prog 77 Tryz.f77 76 := ⟨Tryz.func77,Tryz.ntmps77⟩
instance : Ent Tryz.prog 78 := ent_of Tryz.func78 kj kj
instance : FnE Tryz.prog 78 Tryz.f78 35 := ⟨Tryz.func78,Tryz.ntmps78⟩
instance : Ent Tryz.prog 79 := ent_of Tryz.func79 kj kj
instance : FnE Tryz.prog 79 Tryz.f79 94 := ⟨Tryz.func79,Tryz.ntmps79⟩
instance : Ent Tryz.prog 80 := ent_of Tryz.func80 kj kj
instance : FnE Tryz.prog 80 Tryz.f80 30 := ⟨Tryz.func80,Tryz.ntmps80⟩
instance : Ent Tryz.prog 81 := ent_of Tryz.func81 kj kj
instance : FnE Tryz.prog 81 Tryz.f81 51 := ⟨Tryz.func81,Tryz.ntmps81⟩
instance : Ent Tryz.prog 82 := ent_of Tryz.func82 kj kj
instance : FnE Tryz.prog 82 Tryz.f82 9 := ⟨Tryz.func82,Tryz.ntmps82⟩
instance : Ent Tryz.prog 83 := ent_of Tryz.func83 kj kj
instance : FnE Tryz.prog 83 Tryz.f83 17 := ⟨Tryz.func83,Tryz.ntmps83⟩
instance : Ent Tryz.prog 84 := ent_of Tryz.func84 kj kj
instance : FnE Tryz.prog 84 Tryz.f84 218 := ⟨Tryz.func84,Tryz.ntmps84⟩
instance : Ent Tryz.prog 85 := ent_of Tryz.func85 kj kj
instance : FnE Tryz.prog 85 Tryz.f85 62 := ⟨Tryz.func85,Tryz.ntmps85⟩
instance : Ent Tryz.prog 86 := ent_of Tryz.func86 kj kj
instance : FnE Tryz.prog 86 Tryz.f86 16 := ⟨Tryz.func86,Tryz.ntmps86⟩
instance : Ent Tryz.prog 87 := ent_of Tryz.func87 kj kj
instance : FnE Tryz.prog 87 Tryz.f87 36 := ⟨Tryz.func87,Tryz.ntmps87⟩
instance : Ent Tryz.prog 88 := ent_of Tryz.func88 kj kj
instance : FnE Tryz.prog 88 Tryz.f88 28 := ⟨Tryz.func88,Tryz.ntmps88⟩
instance : Ent Tryz.prog 89 := ent_of Tryz.func89 kj kj
instance : FnE Tryz.prog 89 Tryz.f89 14 := ⟨Tryz.func89,Tryz.ntmps89⟩
instance : Ent Tryz.prog 90 := ent_of Tryz.func90 kj kj
instance : FnE Tryz.prog 90 Tryz.f90 7 := ⟨Tryz.func90,Tryz.ntmps90⟩
instance : Ent Tryz.prog 91 := ent_of Tryz.func91 kj kj
instance : FnE Tryz.prog 91 Tryz.f91 19 := ⟨Tryz.func91,Tryz.ntmps91⟩
instance : Ent Tryz.prog 92 := ent_of Tryz.func92 kj kj
instance : FnE Tryz.prog 92 Tryz.f92 11 := ⟨Tryz.func92,Tryz.ntmps92⟩
instance : Ent Tryz.prog 93 := ent_of Tryz.func93 kj kj
instance : FnE Tryz.prog 93 Tryz.f93 13 := ⟨Tryz.func93,Tryz.ntmps93⟩
instance : Ent Tryz.prog 94 := ent_of Tryz.func94 kj kj
instance : FnE Tryz.prog 94 Tryz.f94 60 := ⟨Tryz.func94,Tryz.ntmps94⟩
instance : Ent Tryz.prog 95 := ent_of Tryz.func95 kj kj
instance : FnE Tryz.prog 95 Tryz.f95 5 := ⟨Tryz.func95,Tryz.ntmps95⟩
instance : Ent Tryz.prog 96 := ent_of Tryz.func96 kj kj
instance : FnE Tryz.prog 96 Tryz.f96 8 := ⟨Tryz.func96,Tryz.ntmps96⟩
instance : Ent Tryz.prog 97 := ent_of Tryz.func97 kj kj
instance : FnE Tryz.prog 97 Tryz.f97 21 := ⟨Tryz.func97,Tryz.ntmps97⟩
instance : Ent Tryz.prog 98 := ent_of Tryz.func98 kj kj
instance : FnE Tryz.prog 98 Tryz.f98 18 := ⟨Tryz.func98,Tryz.ntmps98⟩
instance : Ent Tryz.prog 99 := ent_of Tryz.func99 kj kj
instance : FnE Tryz.prog 99 Tryz.f99 10 := ⟨Tryz.func99,Tryz.ntmps99⟩
instance : Ent Tryz.prog 100 := ent_of Tryz.func100 kj kj
instance : FnE Tryz.prog 100 Tryz.f100 6 := ⟨Tryz.func100,Tryz.ntmps100⟩
instance : Ent Tryz.prog 101 := ent_of Tryz.func101 kj kj
instance : FnE Tryz.prog 101 Tryz.f101 48 := ⟨Tryz.func101,Tryz.ntmps101⟩
instance : Ent Tryz.prog 102 := ent_of Tryz.func102 kj kj
instance : FnE Tryz.prog 102 Tryz.f102 164 := ⟨Tryz.func102,Tryz.ntmps102⟩
instance : Ent Tryz.prog 103 := ent_of Tryz.func103 kj kj
instance : FnE Tryz.prog 103 Tryz.f103 37 := ⟨Tryz.func103,Tryz.ntmps103⟩
instance : Ent Tryz.prog 104 := ent_of Tryz.func104 kj kj
instance : FnE Tryz.prog 104 Tryz.f104 14 := ⟨Tryz.func104,Tryz.ntmps104⟩
instance : Ent Tryz.prog 105 := ent_of Tryz.func105 kj kj
instance : FnE Tryz.prog 105 Tryz.f105 13 := ⟨Tryz.func105,Tryz.ntmps105⟩
instance : Ent Tryz.prog 106 := ent_of Tryz.func106 kj kj
instance : FnE Tryz.prog 106 Tryz.f106 56 := ⟨Tryz.func106,Tryz.ntmps106⟩
instance : Ent Tryz.prog 107 := ent_of Tryz.func107 kj kj
instance : FnE Tryz.prog 107 Tryz.f107 30 := ⟨Tryz.func107,Tryz.ntmps107⟩
instance : Ent Tryz.prog 108 := ent_of Tryz.func108 kj kj
instance : FnE Tryz.prog 108 Tryz.f108 12 := ⟨Tryz.func108,Tryz.ntmps108⟩
instance : Ent Tryz.prog 109 := ent_of Tryz.func109 kj kj
instance : FnE Tryz.prog 109 Tryz.f109 142 := ⟨Tryz.func109,Tryz.ntmps109⟩
instance : Ent Tryz.prog 110 := ent_of Tryz.func110 kj kj
instance : FnE Tryz.prog 110 Tryz.f110 41 := ⟨Tryz.func110,Tryz.ntmps110⟩
instance : Ent Tryz.prog 111 := ent_of Tryz.func111 kj kj
instance : FnE Tryz.prog 111 Tryz.f111 19 := ⟨Tryz.func111,Tryz.ntmps111⟩
instance : Ent Tryz.prog 112 := ent_of Tryz.func112 kj kj
instance : FnE Tryz.prog 112 Tryz.f112 33 := ⟨Tryz.func112,Tryz.ntmps112⟩
instance : Ent Tryz.prog 113 := ent_of Tryz.func113 kj kj
instance : FnE Tryz.prog 113 Tryz.f113 34 := ⟨Tryz.func113,Tryz.ntmps113⟩
instance : Ent Tryz.prog 114 := ent_of Tryz.func114 kj kj
instance : FnE Tryz.prog 114 Tryz.f114 50 := ⟨Tryz.func114,Tryz.ntmps114⟩
instance : Ent Tryz.prog 115 := ent_of Tryz.func115 kj kj
instance : FnE Tryz.prog 115 Tryz.f115 92 := ⟨Tryz.func115,Tryz.ntmps115⟩
instance : Ent Tryz.prog 116 := ent_of Tryz.func116 kj kj
instance : FnE Tryz.prog 116 Tryz.f116 200 := ⟨Tryz.func116,Tryz.ntmps116⟩
instance : Ent Tryz.prog 117 := ent_of Tryz.func117 kj kj
instance : FnE Tryz.prog 117 Tryz.f117 74 := ⟨Tryz.func117,Tryz.ntmps117⟩
instance : Ent Tryz.prog 118 := ent_of Tryz.func118 kj kj
instance : FnE Tryz.prog 118 Tryz.f118 6 := ⟨Tryz.func118,Tryz.ntmps118⟩
instance : Ent Tryz.prog 119 := ent_of Tryz.func119 kj kj
instance : FnE Tryz.prog 119 Tryz.f119 45 := ⟨Tryz.func119,Tryz.ntmps119⟩
instance : Ent Tryz.prog 120 := ent_of Tryz.func120 kj kj
instance : FnE Tryz.prog 120 Tryz.f120 21 := ⟨Tryz.func120,Tryz.ntmps120⟩
instance : Ent Tryz.prog 121 := ent_of Tryz.func121 kj kj
instance : FnE Tryz.prog 121 Tryz.f121 62 := ⟨Tryz.func121,Tryz.ntmps121⟩
instance : Ent Tryz.prog 122 := ent_of Tryz.func122 kj kj
instance : FnE Tryz.prog 122 Tryz.f122 48 := ⟨Tryz.func122,Tryz.ntmps122⟩
instance : Ent Tryz.prog 123 := ent_of Tryz.func123 kj kj
instance : FnE Tryz.prog 123 Tryz.f123 36 := ⟨Tryz.func123,Tryz.ntmps123⟩
instance : Ent Tryz.prog 124 := ent_of Tryz.func124 kj kj
instance : FnE Tryz.prog 124 Tryz.f124 21 := ⟨Tryz.func124,Tryz.ntmps124⟩
instance : Ent Tryz.prog 125 := ent_of Tryz.func125 kj kj
instance : FnE Tryz.prog 125 Tryz.f125 20 := ⟨Tryz.func125,Tryz.ntmps125⟩
instance : Ent Tryz.prog 126 := ent_of Tryz.func126 kj kj
instance : FnE Tryz.prog 126 Tryz.f126 27 := ⟨Tryz.func126,Tryz.ntmps126⟩
instance : Ent Tryz.prog 127 := ent_of Tryz.func127 kj kj
instance : FnE Tryz.prog 127 Tryz.f127 25 := ⟨Tryz.func127,Tryz.ntmps127⟩
instance : Ent Tryz.prog 129 := ent_of Tryz.func129 kj kj
instance : FnE Tryz.prog 129 Tryz.f129 34 := ⟨Tryz.func129,Tryz.ntmps129⟩
instance : Ent Tryz.prog 130 := ent_of Tryz.func130 kj kj
instance : FnE Tryz.prog 130 Tryz.f130 55 := ⟨Tryz.func130,Tryz.ntmps130⟩
instance : Ent Tryz.prog 131 := ent_of Tryz.func131 kj kj
instance : FnE Tryz.prog 131 Tryz.f131 286 := ⟨Tryz.func131,Tryz.ntmps131⟩
instance : Ent Tryz.prog 132 := ent_of Tryz.func132 kj kj
instance : FnE Tryz.prog 132 Tryz.f132 29 := ⟨Tryz.func132,Tryz.ntmps132⟩
instance : Ent Tryz.prog 133 := ent_of Tryz.func133 kj kj
instance : FnE Tryz.prog 133 Tryz.f133 16 := ⟨Tryz.func133,Tryz.ntmps133⟩
instance : Ent Tryz.prog 134 := ent_of Tryz.func134 kj kj
instance : FnE Tryz.prog 134 Tryz.f134 44 := ⟨Tryz.func134,Tryz.ntmps134⟩
instance : Ent Tryz.prog 135 := ent_of Tryz.func135 kj kj
instance : FnE Tryz.prog 135 Tryz.f135 137 := ⟨Tryz.func135,Tryz.ntmps135⟩
instance : Ent Tryz.prog 136 := ent_of Tryz.func136 kj kj
instance : FnE Tryz.prog 136 Tryz.f136 4 := ⟨Tryz.func136,Tryz.ntmps136⟩
instance : Ent Tryz.prog 137 := ent_of Tryz.func137 kj kj
instance : FnE Tryz.prog 137 Tryz.f137 40 := ⟨Tryz.func137,Tryz.ntmps137⟩
instance : Ent Tryz.prog 138 := ent_of Tryz.func138 kj kj
instance : FnE Tryz.prog 138 Tryz.f138 55 := ⟨Tryz.func138,Tryz.ntmps138⟩
instance : Ent Tryz.prog 139 := ent_of Tryz.func139 kj kj
instance : FnE Tryz.prog 139 Tryz.f139 6 := ⟨Tryz.func139,Tryz.ntmps139⟩
instance : Ent Tryz.prog 140 := ent_of Tryz.func140 kj kj
instance : FnE Tryz.prog 140 Tryz.f140 5 := ⟨Tryz.func140,Tryz.ntmps140⟩
instance : Ent Tryz.prog 141 := ent_of Tryz.func141 kj kj
instance : FnE Tryz.prog 141 Tryz.f141 21 := ⟨Tryz.func141,Tryz.ntmps141⟩
instance : Ent Tryz.prog 142 := ent_of Tryz.func142 kj kj
instance : FnE Tryz.prog 142 Tryz.f142 6 := ⟨Tryz.func142,Tryz.ntmps142⟩
instance : Ent Tryz.prog 143 := ent_of Tryz.func143 kj kj
instance : FnE Tryz.prog 143 Tryz.f143 59 := ⟨Tryz.func143,Tryz.ntmps143⟩
instance : Ent Tryz.prog 144 := ent_of Tryz.func144 kj kj
instance : FnE Tryz.prog 144 Tryz.f144 24 := ⟨Tryz.func144,Tryz.ntmps144⟩
instance : Ent Tryz.prog 146 := ent_of Tryz.func146 kj kj
instance : FnE Tryz.prog 146 Tryz.f146 57 := ⟨Tryz.func146,Tryz.ntmps146⟩
instance : Ent Tryz.prog 147 := ent_of Tryz.func147 kj kj
instance : FnE Tryz.prog 147 Tryz.f147 21 := ⟨Tryz.func147,Tryz.ntmps147⟩
instance : Ent Tryz.prog 148 := ent_of Tryz.func148 kj kj
instance : FnE Tryz.prog 148 Tryz.f148 28 := ⟨Tryz.func148,Tryz.ntmps148⟩
instance : Ent Tryz.prog 149 := ent_of Tryz.func149 kj kj
instance : FnE Tryz.prog 149 Tryz.f149 81 := ⟨Tryz.func149,Tryz.ntmps149⟩
instance : Ent Tryz.prog 150 := ent_of Tryz.func150 kj kj
instance : FnE Tryz.prog 150 Tryz.f150 14 := ⟨Tryz.func150,Tryz.ntmps150⟩
instance : Ent Tryz.prog 151 := ent_of Tryz.func151 kj kj
instance : FnE Tryz.prog 151 Tryz.f151 43 := ⟨Tryz.func151,Tryz.ntmps151⟩
instance : Ent Tryz.prog 152 := ent_of Tryz.func152 kj kj
instance : FnE Tryz.prog 152 Tryz.f152 15 := ⟨Tryz.func152,Tryz.ntmps152⟩
instance : Ent Tryz.prog 153 := ent_of Tryz.func153 kj kj
instance : FnE Tryz.prog 153 Tryz.f153 105 := ⟨Tryz.func153,Tryz.ntmps153⟩
instance : Ent Tryz.prog 154 := ent_of Tryz.func154 kj kj
instance : FnE Tryz.prog 154 Tryz.f154 83 := ⟨Tryz.func154,Tryz.ntmps154⟩
instance : Ent Tryz.prog 155 := ent_of Tryz.func155 kj kj
instance : FnE Tryz.prog 155 Tryz.f155 92 := ⟨Tryz.func155,Tryz.ntmps155⟩
instance : Ent Tryz.prog 156 := ent_of Tryz.func156 kj kj
instance : FnE Tryz.prog 156 Tryz.f156 80 := ⟨Tryz.func156,Tryz.ntmps156⟩
instance : Ent Tryz.prog 157 := ent_of Tryz.func157 kj kj
instance : FnE Tryz.prog 157 Tryz.f157 17 := ⟨Tryz.func157,Tryz.ntmps157⟩
instance : Ent Tryz.prog 158 := ent_of Tryz.func158 kj kj
instance : FnE Tryz.prog 158 Tryz.f158 13 := ⟨Tryz.func158,Tryz.ntmps158⟩
instance : Ent Tryz.prog 159 := ent_of Tryz.func159 kj kj
instance : FnE Tryz.prog 159 Tryz.f159 22 := ⟨Tryz.func159,Tryz.ntmps159⟩
instance : Ent Tryz.prog 160 := ent_of Tryz.func160 kj kj
instance : FnE Tryz.prog 160 Tryz.f160 6 := ⟨Tryz.func160,Tryz.ntmps160⟩
instance : Ent Tryz.prog 161 := ent_of Tryz.func161 kj kj
instance : FnE Tryz.prog 161 Tryz.f161 11 := ⟨Tryz.func161,Tryz.ntmps161⟩
instance : Ent Tryz.prog 162 := ent_of Tryz.func162 kj kj
instance : FnE Tryz.prog 162 Tryz.f162 13 := ⟨Tryz.func162,Tryz.ntmps162⟩
instance : Ent Tryz.prog 163 := ent_of Tryz.func163 kj kj
instance : FnE Tryz.prog 163 Tryz.f163 22 := ⟨Tryz.func163,Tryz.ntmps163⟩
instance : Ent Tryz.prog 164 := ent_of Tryz.func164 kj kj
instance : FnE Tryz.prog 164 Tryz.f164 118 := ⟨Tryz.func164,Tryz.ntmps164⟩
instance : Ent Tryz.prog 165 := ent_of Tryz.func165 kj kj
instance : FnE Tryz.prog 165 Tryz.f165 44 := ⟨Tryz.func165,Tryz.ntmps165⟩
instance : Ent Tryz.prog 166 := ent_of Tryz.func166 kj kj
instance : FnE Tryz.prog 166 Tryz.f166 21 := ⟨Tryz.func166,Tryz.ntmps166⟩
instance : Ent Tryz.prog 167 := ent_of Tryz.func167 kj kj
instance : FnE Tryz.prog 167 Tryz.f167 34 := ⟨Tryz.func167,Tryz.ntmps167⟩
instance : Ent Tryz.prog 168 := ent_of Tryz.func168 kj kj
instance : FnE Tryz.prog 168 Tryz.f168 34 := ⟨Tryz.func168,Tryz.ntmps168⟩
instance : Ent Tryz.prog 169 := ent_of Tryz.func169 kj kj
instance : FnE Tryz.prog 169 Tryz.f169 46 := ⟨Tryz.func169,Tryz.ntmps169⟩
instance : Ent Tryz.prog 170 := ent_of Tryz.func170 kj kj
instance : FnE Tryz.prog 170 Tryz.f170 113 := ⟨Tryz.func170,Tryz.ntmps170⟩
instance : Ent Tryz.prog 171 := ent_of Tryz.func171 kj kj
instance : FnE Tryz.prog 171 Tryz.f171 107 := ⟨Tryz.func171,Tryz.ntmps171⟩
instance : Ent Tryz.prog 172 := ent_of Tryz.func172 kj kj
instance : FnE Tryz.prog 172 Tryz.f172 59 := ⟨Tryz.func172,Tryz.ntmps172⟩
instance : Ent Tryz.prog 173 := ent_of Tryz.func173 kj kj
instance : FnE Tryz.prog 173 Tryz.f173 31 := ⟨Tryz.func173,Tryz.ntmps173⟩
instance : Ent Tryz.prog 174 := ent_of Tryz.func174 kj kj
instance : FnE Tryz.prog 174 Tryz.f174 7 := ⟨Tryz.func174,Tryz.ntmps174⟩
instance : Ent Tryz.prog 175 := ent_of Tryz.func175 kj kj
instance : FnE Tryz.prog 175 Tryz.f175 44 := ⟨Tryz.func175,Tryz.ntmps175⟩
instance : Ent Tryz.prog 176 := ent_of Tryz.func176 kj kj
instance : FnE Tryz.prog 176 Tryz.f176 16 := ⟨Tryz.func176,Tryz.ntmps176⟩
instance : Ent Tryz.prog 177 := ent_of Tryz.func177 kj kj
instance : FnE Tryz.prog 177 Tryz.f177 99 := ⟨Tryz.func177,Tryz.ntmps177⟩
instance : Ent Tryz.prog 178 := ent_of Tryz.func178 kj kj
instance : FnE Tryz.prog 178 Tryz.f178 117 := ⟨Tryz.func178,Tryz.ntmps178⟩
instance : Ent Tryz.prog 179 := ent_of Tryz.func179 kj kj
instance : FnE Tryz.prog 179 Tryz.f179 104 := ⟨Tryz.func179,Tryz.ntmps179⟩
instance : Ent Tryz.prog 180 := ent_of Tryz.func180 kj kj
instance : FnE Tryz.prog 180 Tryz.f180 82 := ⟨Tryz.func180,Tryz.ntmps180⟩
instance : Ent Tryz.prog 181 := ent_of Tryz.func181 kj kj
instance : FnE Tryz.prog 181 Tryz.f181 38 := ⟨Tryz.func181,Tryz.ntmps181⟩
instance : Ent Tryz.prog 182 := ent_of Tryz.func182 kj kj
instance : FnE Tryz.prog 182 Tryz.f182 51 := ⟨Tryz.func182,Tryz.ntmps182⟩
instance : Ent Tryz.prog 183 := ent_of Tryz.func183 kj kj
instance : FnE Tryz.prog 183 Tryz.f183 55 := ⟨Tryz.func183,Tryz.ntmps183⟩
instance : Ent Tryz.prog 184 := ent_of Tryz.func184 kj kj
instance : FnE Tryz.prog 184 Tryz.f184 47 := ⟨Tryz.func184,Tryz.ntmps184⟩
instance : Ent Tryz.prog 185 := ent_of Tryz.func185 kj kj
instance : FnE Tryz.prog 185 Tryz.f185 29 := ⟨Tryz.func185,Tryz.ntmps185⟩
instance : Ent Tryz.prog 186 := ent_of Tryz.func186 kj kj
instance : FnE Tryz.prog 186 Tryz.f186 191 := ⟨Tryz.func186,Tryz.ntmps186⟩
instance : Ent Tryz.prog 187 := ent_of Tryz.func187 kj kj
instance : FnE Tryz.prog 187 Tryz.f187 26 := ⟨Tryz.func187,Tryz.ntmps187⟩
instance : Ent Tryz.prog 188 := ent_of Tryz.func188 kj kj
instance : FnE Tryz.prog 188 Tryz.f188 11 := ⟨Tryz.func188,Tryz.ntmps188⟩
instance : Ent Tryz.prog 189 := ent_of Tryz.func189 kj kj
instance : FnE Tryz.prog 189 Tryz.f189 14 := ⟨Tryz.func189,Tryz.ntmps189⟩
instance : Ent Tryz.prog 190 := ent_of Tryz.func190 kj kj
instance : FnE Tryz.prog 190 Tryz.f190 110 := ⟨Tryz.func190,Tryz.ntmps190⟩
instance : Ent Tryz.prog 191 := ent_of Tryz.func191 kj kj
instance : FnE Tryz.prog 191 Tryz.f191 14 := ⟨Tryz.func191,Tryz.ntmps191⟩
instance : Ent Tryz.prog 192 := ent_of Tryz.func192 kj kj
instance : FnE Tryz.prog 192 Tryz.f192 27 := ⟨Tryz.func192,Tryz.ntmps192⟩
instance : Ent Tryz.prog 193 := ent_of Tryz.func193 kj kj
instance : FnE Tryz.prog 193 Tryz.f193 4 := ⟨Tryz.func193,Tryz.ntmps193⟩
instance : Ent Tryz.prog 194 := ent_of Tryz.func194 kj kj
instance : FnE Tryz.prog 194 Tryz.f194 78 := ⟨Tryz.func194,Tryz.ntmps194⟩
instance : Ent Tryz.prog 195 := ent_of Tryz.func195 kj kj
instance : FnE Tryz.prog 195 Tryz.f195 20 := ⟨Tryz.func195,Tryz.ntmps195⟩
instance : Ent Tryz.prog 196 := ent_of Tryz.func196 kj kj
instance : FnE Tryz.prog 196 Tryz.f196 38 := ⟨Tryz.func196,Tryz.ntmps196⟩
instance : Ent Tryz.prog 197 := ent_of Tryz.func197 kj kj
instance : FnE Tryz.prog 197 Tryz.f197 5 := ⟨Tryz.func197,Tryz.ntmps197⟩
instance : Ent Tryz.prog 198 := ent_of Tryz.func198 kj kj
instance : FnE Tryz.prog 198 Tryz.f198 14 := ⟨Tryz.func198,Tryz.ntmps198⟩
instance : Ent Tryz.prog 199 := ent_of Tryz.func199 kj kj
instance : FnE Tryz.prog 199 Tryz.f199 11 := ⟨Tryz.func199,Tryz.ntmps199⟩
instance : Ent Tryz.prog 200 := ent_of Tryz.func200 kj kj
instance : FnE Tryz.prog 200 Tryz.f200 31 := ⟨Tryz.func200,Tryz.ntmps200⟩
instance : Ent Tryz.prog 201 := ent_of Tryz.func201 kj kj
instance : FnE Tryz.prog 201 Tryz.f201 53 := ⟨Tryz.func201,Tryz.ntmps201⟩
instance : Ent Tryz.prog 202 := ent_of Tryz.func202 kj kj
instance : FnE Tryz.prog 202 Tryz.f202 19 := ⟨Tryz.func202,Tryz.ntmps202⟩
instance : Ent Tryz.prog 203 := ent_of Tryz.func203 kj kj
instance : FnE Tryz.prog 203 Tryz.f203 31 := ⟨Tryz.func203,Tryz.ntmps203⟩
instance : Ent Tryz.prog 204 := ent_of Tryz.func204 kj kj
instance : FnE Tryz.prog 204 Tryz.f204 37 := ⟨Tryz.func204,Tryz.ntmps204⟩
instance : Ent Tryz.prog 205 := ent_of Tryz.func205 kj kj
instance : FnE Tryz.prog 205 Tryz.f205 64 := ⟨Tryz.func205,Tryz.ntmps205⟩
instance : Ent Tryz.prog 206 := ent_of Tryz.func206 kj kj
instance : FnE Tryz.prog 206 Tryz.f206 78 := ⟨Tryz.func206,Tryz.ntmps206⟩
instance : Ent Tryz.prog 207 := ent_of Tryz.func207 kj kj
instance : FnE Tryz.prog 207 Tryz.f207 18 := ⟨Tryz.func207,Tryz.ntmps207⟩
instance : Ent Tryz.prog 208 := ent_of Tryz.func208 kj kj
instance : FnE Tryz.prog 208 Tryz.f208 72 := ⟨Tryz.func208,Tryz.ntmps208⟩
instance : Ent Tryz.prog 209 := ent_of Tryz.func209 kj kj
instance : FnE Tryz.prog 209 Tryz.f209 17 := ⟨Tryz.func209,Tryz.ntmps209⟩
instance : Ent Tryz.prog 210 := ent_of Tryz.func210 kj kj
instance : FnE Tryz.prog 210 Tryz.f210 17 := ⟨Tryz.func210,Tryz.ntmps210⟩
instance : Ent Tryz.prog 211 := ent_of Tryz.func211 kj kj
instance : FnE Tryz.prog 211 Tryz.f211 8 := ⟨Tryz.func211,Tryz.ntmps211⟩
instance : Ent Tryz.prog 212 := ent_of Tryz.func212 kj kj
instance : FnE Tryz.prog 212 Tryz.f212 32 := ⟨Tryz.func212,Tryz.ntmps212⟩
instance : Ent Tryz.prog 213 := ent_of Tryz.func213 kj kj
instance : FnE Tryz.prog 213 Tryz.f213 7 := ⟨Tryz.func213,Tryz.ntmps213⟩
instance : Ent Tryz.prog 214 := ent_of Tryz.func214 kj kj
instance : FnE Tryz.prog 214 Tryz.f214 23 := ⟨Tryz.func214,Tryz.ntmps214⟩
instance : Ent Tryz.prog 215 := ent_of Tryz.func215 kj kj
instance : FnE Tryz.prog 215 Tryz.f215 4 := ⟨Tryz.func215,Tryz.ntmps215⟩
instance : Ent Tryz.prog 216 := ent_of Tryz.func216 kj kj
instance : FnE Tryz.prog 216 Tryz.f216 30 := ⟨Tryz.func216,Tryz.ntmps216⟩
instance : Ent Tryz.prog 217 := ent_of Tryz.func217 kj kj
instance : FnE Tryz.prog 217 Tryz.f217 26 := ⟨Tryz.func217,Tryz.ntmps217⟩
instance : Ent Tryz.prog 218 := ent_of Tryz.func218 kj kj
instance : FnE Tryz.prog 218 Tryz.f218 46 := ⟨Tryz.func218,Tryz.ntmps218⟩
instance : Ent Tryz.prog 219 := ent_of Tryz.func219 kj kj
instance : FnE Tryz.prog 219 Tryz.f219 84 := ⟨Tryz.func219,Tryz.ntmps219⟩
instance : Ent Tryz.prog 220 := ent_of Tryz.func220 kj kj
instance : FnE Tryz.prog 220 Tryz.f220 212 := ⟨Tryz.func220,Tryz.ntmps220⟩
instance : Ent Tryz.prog 221 := ent_of Tryz.func221 kj kj
instance : FnE Tryz.prog 221 Tryz.f221 29 := ⟨Tryz.func221,Tryz.ntmps221⟩
instance : Ent Tryz.prog 222 := ent_of Tryz.func222 kj kj
instance : FnE Tryz.prog 222 Tryz.f222 51 := ⟨Tryz.func222,Tryz.ntmps222⟩
instance : Ent Tryz.prog 223 := ent_of Tryz.func223 kj kj
instance : FnE Tryz.prog 223 Tryz.f223 55 := ⟨Tryz.func223,Tryz.ntmps223⟩
instance : Ent Tryz.prog 224 := ent_of Tryz.func224 kj kj
instance : FnE Tryz.prog 224 Tryz.f224 53 := ⟨Tryz.func224,Tryz.ntmps224⟩
instance : Ent Tryz.prog 226 := ent_of Tryz.func226 kj kj
instance : FnE Tryz.prog 226 Tryz.f226 15 := ⟨Tryz.func226,Tryz.ntmps226⟩
instance : Ent Tryz.prog 227 := ent_of Tryz.func227 kj kj
instance : FnE Tryz.prog 227 Tryz.f227 2 := ⟨Tryz.func227,Tryz.ntmps227⟩
instance : Ent Tryz.prog 228 := ent_of Tryz.func228 kj kj
instance : FnE Tryz.prog 228 Tryz.f228 25 := ⟨Tryz.func228,Tryz.ntmps228⟩
theorem mixed : Tryz.prog.follows .mixedOrders = true := by kernel_rfl
end Go.Proofs.YtabbklpalbikdaaGreatDoor
end
section
namespace Go.Pt
section
variable {P : Program} {ops : Array Oper} {N n : Nat} {Γ : Env} {C D : World → Prop} {Q : Act → World → Prop}
def Mt (P : Program) (ops : Array Oper) (N n : Nat) (listed : Array Bool) (Γ : Env) (D C : World → Prop) (Q : Act → World → Prop) : Prop :=
 ∀ a w,Fr N a Γ → D w → C w → wpAnyC P ops C Q n listed a w
def MtQ (P : Program) (ops : Array Oper) (C : World → Prop) (Q : Act → World → Prop) (n : Nat) (listed : Array Bool) : Exit → Act → World → Prop := fun _ a w => C w → wpAnyC P ops C Q n listed a w
def MtE (P : Program) (ops : Array Oper) (C : World → Prop) (Q : Act → World → Prop) (n : Nat) (listed : Array Bool) : Exit → Act → World → Prop := fun e a w => e = .normal ∧ C w ∧ wpAnyC P ops C Q n listed a w
theorem Mt.back {listed : Array Bool} (h : Mt P ops N n listed Γ D C Q) : Gt N .normal Γ D (MtQ P ops C Q n listed) := Gt.intro fun a w ha hD hC => h a w ha hD hC
theorem Mt.backE {listed : Array Bool} (hc : ∀ w,D w → C w) (h : Mt P ops N n listed Γ D C Q) : Gt N .normal Γ D (MtE P ops C Q n listed) := Gt.intro fun a w ha hD => ⟨rfl,hc w hD,h a w ha hD (hc w hD)⟩
theorem Mt.done {listed : Array Bool} (hr : (Region.ready .any ops listed).isEmpty = true) (h : ∀ a w,Fr N a Γ → D w → Q a w) : Mt P ops N n listed Γ D C Q := fun a w ha hD hC => by
 have hr' : Region.ready .any ops listed = [] := by simpa using hr
 cases n with
 | zero => exact ⟨hC,hr',h a w ha hD⟩
 | succ n => exact ⟨hC,fun _ => h a w ha hD,fun i hi => by rw [hr'] at hi;cases hi⟩
theorem Mt.pure {listed : Array Bool} (i : Nat) {o : Oper} (hs : Region.noSelect ops = true) (hi : ops[i]? = some o) (he : effB o = false) (hr : (Region.ready .any ops listed).contains i = true) (hf : Region.free .any ops listed i = true)
  (h : Wl [o] P (.mix D) ops N Γ C (MtQ P ops C Q n (listed.setIfInBounds i true))) : Mt P ops N (n + 1) listed Γ D C Q := fun a w ha hD hC => by
 have h := h.elimM a w ha hD hC
 simp only [wpE,he] at h
 by_cases hw : Region.wanted o (yielded ops a.tmps) = true
 ·rw [if_pos hw] at h
  obtain ⟨v,hv,h⟩ := h
  exact firstC hi hs n listed a w (Region.free_spec hi hf) (by simpa using hr) (.inl ⟨hw,hv⟩) (h hC)
 ·rw [if_neg hw] at h
  exact firstC hi hs n listed a w (Region.free_spec hi hf) (by simpa using hr) (.inr ⟨by simpa using hw,rfl⟩) (h hC)
theorem Wl.nilB {listed : Array Bool} (h : Mt P ops N n listed Γ D C Q) : Wl [] P (.mix D) ops N Γ C (MtQ P ops C Q n listed) := Wl.nilM (Mt.back h)
theorem Mt.pu {listed : Array Bool} (i : Nat) {o : Oper} (h : Wl [o] P (.mix D) ops N Γ C (MtQ P ops C Q n (listed.setIfInBounds i true))) (hs : Region.noSelect ops = true := by decide +kernel) (hi : ops[i]? = some o := by exact rfl) (he : effB o = false := by exact rfl) (hr : (Region.ready .any ops listed).contains i = true := by decide +kernel) (hf : Region.free .any ops listed i = true := by decide +kernel) : Mt P ops N (n + 1) listed Γ D C Q := Mt.pure i hs hi he hr hf h
theorem Mt.pm {listed : Array Bool} (i : Nat) {d : Nat} {ty : TypeId} {pos : String} {af : Array Edge} {x : Operand} {v : Value} (h : Mt P ops N n (listed.setIfInBounds i true) ((d, v) :: Γ) D C Q) (hi : ops[i]? = some ⟨some d, .move x, ty, pos, af, none⟩ := by exact rfl) (hd : Nat.blt d N = true := by exact rfl) (hx : ev Γ x = some v := by exact rfl) (hs : Region.noSelect ops = true := by decide +kernel) (hr : (Region.ready .any ops listed).contains i = true := by decide +kernel) (hf : Region.free .any ops listed i = true := by decide +kernel) : Mt P ops N (n + 1) listed Γ D C Q := Mt.pure i hs hi rfl hr hf (Wl.move hd hx (Wl.nilB h))
theorem Mt.pn {listed : Array Bool} (i : Nat) {d : Nat} {ty : TypeId} {pos : String} {af : Array Edge} {x : Operand} {p : Addr} (h : Mt P ops N n (listed.setIfInBounds i true) ((d, .pointer (some p)) :: Γ) D C Q) (hi : ops[i]? = some ⟨some d, .nilCheck x, ty, pos, af, none⟩ := by exact rfl) (hd : Nat.blt d N = true := by exact rfl) (hx : ev Γ x = some (.pointer (some p)) := by exact rfl) (hs : Region.noSelect ops = true := by decide +kernel) (hr : (Region.ready .any ops listed).contains i = true := by decide +kernel) (hf : Region.free .any ops listed i = true := by decide +kernel) : Mt P ops N (n + 1) listed Γ D C Q := Mt.pure i hs hi rfl hr hf (Wl.nilCheck hd hx (Wl.nilB h))
theorem Mt.po {listed : Array Bool} (i : Nat) {d : Nat} {op : Op} {ty : TypeId} {pos : String} {af : Array Edge} {j t : Nat} {want b : Bool} (h : Mt P ops N n (listed.setIfInBounds i true) ((d, undef) :: Γ) D C Q) (hi : ops[i]? = some ⟨some d, op, ty, pos, af, some (j, want)⟩ := by exact rfl) (he : effB ⟨some d, op, ty, pos, af, some (j, want)⟩ = false := by exact rfl) (hd : Nat.blt d N = true := by exact rfl) (hj : (ops[j]?).bind (·.dst) = some t := by exact rfl) (ht : look Γ t = some (.bool b) := by exact rfl) (hb : b = !want := by first | with_reducible rfl | (show _ = false;with_reducible assumption) | (show _ = true;with_reducible assumption) | decide) (hs : Region.noSelect ops = true := by decide +kernel) (hr : (Region.ready .any ops listed).contains i = true := by decide +kernel) (hf : Region.free .any ops listed i = true := by decide +kernel) : Mt P ops N (n + 1) listed Γ D C Q := Mt.pure i hs hi he hr hf (Wl.off hd hj ht hb (Wl.nilB h))
theorem Mt.pz {listed : Array Bool} (i : Nat) {d : Nat} {ty : TypeId} {pos : String} {af : Array Edge} {x : Operand} {s j off ft b : Nat} (h : Mt P ops N n (listed.setIfInBounds i true) ((d, .pointer (some ⟨b, off, none⟩)) :: Γ) D C Q) (hi : ops[i]? = some ⟨some d, .fieldAddr s x j, ty, pos, af, none⟩ := by exact rfl) (hF : Fld P s j off ft := by infer_instance) (hd : Nat.blt d N = true := by exact rfl) (hx : ev Γ x = some (.pointer (some ⟨b, 0, none⟩)) := by exact rfl) (hs : Region.noSelect ops = true := by decide +kernel) (hr : (Region.ready .any ops listed).contains i = true := by decide +kernel) (hf : Region.free .any ops listed i = true := by decide +kernel) : Mt P ops N (n + 1) listed Γ D C Q := Mt.pure i hs hi rfl hr hf (Wl.fieldAddrZ (hf := hF) hd hx (Wl.nilB h))
theorem Mt.pf {listed : Array Bool} (i : Nat) {d : Nat} {ty : TypeId} {pos : String} {af : Array Edge} {x : Operand} {s j ft : Nat} {a0 : Addr} (h : Mt P ops N n (listed.setIfInBounds i true) ((d, .pointer (some a0)) :: Γ) D C Q) (hi : ops[i]? = some ⟨some d, .fieldAddr s x j, ty, pos, af, none⟩ := by exact rfl) (hF : Fld P s j 0 ft := by infer_instance) (hd : Nat.blt d N = true := by exact rfl) (hx : ev Γ x = some (.pointer (some a0)) := by exact rfl) (hs : Region.noSelect ops = true := by decide +kernel) (hr : (Region.ready .any ops listed).contains i = true := by decide +kernel) (hf : Region.free .any ops listed i = true := by decide +kernel) : Mt P ops N (n + 1) listed Γ D C Q := Mt.pure i hs hi rfl hr hf (Wl.fieldAddr0 (hf := hF) hd hx (Wl.nilB h))
theorem Mt.op {listed : Array Bool} {i : Nat} {o : Oper} (hi : ops[i]? = some o) (h : Wl [o] P .seq ops N Γ D (MtE P ops C Q n (listed.setIfInBounds i true))) (a : Act) (w : World) (ha : Fr N a Γ) (hD : D w) :
  wpOp P ops (onlyN Q) i (wpAnyC P ops C Q n (listed.setIfInBounds i true)) a w := by
 have h := h.elim a w ha hD
 unfold wpOp
 simp only [hi]
 simp only [wpList] at h
 split
 ·rename_i hw
  rw [if_pos hw] at h
  rcases h with h | ⟨_,x,y,h⟩
  ·refine .inl ?_
   have h1 := wp_only (fun _ _ _ h => h.1) h
   have h2 := Oper.wp_mono (fun a' w' hh => hh.2.2) h1
   unfold Oper.wp at *
   generalize (execOp a.eval o).run P w = r at *
   cases r with
   | ok n w' =>
    cases n <;> simp only [Oper.upon] at h2 ⊢
    case value u => exact h2
    case skip => exact h2
    case defer d => exact h2
    case enter f args => exact Calls.mono h2 (fun e w'' he => by cases e <;> first | exact he | exact he.elim | (obtain ⟨_,_,hf⟩ := he;exact hf.elim))
    case row row args => exact h2
   | halt x w' => cases x <;> simp only [Oper.upon] at h2
  ·cases h.1
 ·rename_i hw
  rw [if_neg hw] at h
  exact h.2.2
theorem Mt.eff1 {listed : Array Bool} {i : Nat} {o : Oper} (hr : Region.ready .any ops listed = [i]) (hi : ops[i]? = some o) (h : Wl [o] P .seq ops N Γ D (MtE P ops C Q n (listed.setIfInBounds i true))) : Mt P ops N (n + 1) listed Γ D C Q := fun a w ha hD hC => by
 refine ⟨hC,fun e => (by rw [hr] at e;cases e),fun j hj => ?_⟩
 rw [hr,List.mem_singleton] at hj
 subst hj
 exact Mt.op hi h a w ha hD
theorem Mt.eff2 {listed : Array Bool} {i j : Nat} {o o' : Oper} (hr : Region.ready .any ops listed = [i,j]) (hi : ops[i]? = some o) (hj : ops[j]? = some o') (h : Wl [o] P .seq ops N Γ D (MtE P ops C Q n (listed.setIfInBounds i true)))
  (h' : Wl [o'] P .seq ops N Γ D (MtE P ops C Q n (listed.setIfInBounds j true))) : Mt P ops N (n + 1) listed Γ D C Q := fun a w ha hD hC => by
 refine ⟨hC,fun e => (by rw [hr] at e;cases e),fun k hk => ?_⟩
 rw [hr] at hk
 simp only [List.mem_cons,List.not_mem_nil,or_false] at hk
 rcases hk with rfl | rfl
 ·exact Mt.op hi h a w ha hD
 ·exact Mt.op hj h' a w ha hD
end
section
variable {P : Program} {N : Nat} {Γ : Env} {C B : World → Prop} {Q : Exit → Act → World → Prop}
theorem St.tree {i : Nat} {l : List Oper} (B : World → Prop) (hm : P.follows .mixedOrders = true) (hC : ∀ w,C w → C w.drew ∧ B w.drew) (h : Mt P l.toArray N l.length (Array.replicate l.length false) Γ C B (fun a w => Q .normal a w)) :
  St (.region i l.toArray true) P N Γ C Q := St.intro fun a w ha hw => by
 refine wp_mono (wp_region_any (Q := onlyN fun a' w' => Q .normal a' w') hm ?_) ?_
 ·have := wpAny_of_C _ _ _ _ (h a w.drew ha (hC w hw).1 (hC w hw).2)
  simpa using this
 ·intro e a w h
  cases e <;> first | exact h | exact h.elim
theorem Mt.toGt {ops : Array Oper} {n : Nat} {listed : Array Bool} {D : World → Prop} (hr : (Region.ready .any ops listed).isEmpty = true) (h : Gt N .normal Γ D Q) : Mt P ops N n listed Γ D C (fun a w => Q .normal a w) := Mt.done hr fun a w ha hD => h.elim a w ha hD
end
end Go.Pt
end
section
namespace Go.Proofs.YtabbklpalbikdaaGreatDoor
open Go.RowKit Go.Pt
theorem Hp.pop {w0 w : World} {x : Blk} {H : List Blk} (h : Hp w0 (x :: H) w) (hx : w0.heap.size ≤ x.b) : Hp w0 H w :=
 ⟨h.upd.mono fun k hk hs ho => hs ⟨fun e => by omega,ho⟩,h.own.2,h.apart.2⟩
theorem Hp.under {wB w0 w : World} {H : List Blk} (h : Hp w0 H w) (hu : Upd (fun k => wB.heap.size ≤ k) wB w0) : Hp wB H w :=
 ⟨hu.comp h.upd fun k hk hs => hs.elim (fun y => by omega) id,h.own,h.apart⟩
end Go.Proofs.YtabbklpalbikdaaGreatDoor
end
section
namespace Go.Proofs.YtabbklpalbikdaaGreatDoor
open Go.RowKit Go.Pt
theorem Wl.max2 {P : Program} {md : Md} {ops : Array Oper} {N : Nat} {rest : List Oper} {Γ : Env} {C : World → Prop} {Q : Exit → Act → World → Prop} {d : Nat} {ty : TypeId} {pos : String} {af : Array Edge} {x y : Operand} {t u : TypeId} {k : IntKind} {m n : Int}
  (hd : Nat.blt d N = true) (hx : ev Γ x = some (.int k m)) (hy : ev Γ y = some (.int k n)) (h : Wl rest P md ops N ((d,.int k (if m < n then n else m)) :: Γ) C Q) :
  Wl (⟨some d,.call { callee := .builtin .max,args := #[x,y],argTypes := #[t,u] },ty,pos,af,none⟩ :: rest) P md ops N Γ C Q :=
 Wl.val hd (fun a w ha _ => by simp [execOp,resolve,invoke,builtin,Builtin.max_,Builtin.max2,ha.ev hx,ha.ev hy];try (split <;> simp_all)) h
end Go.Proofs.YtabbklpalbikdaaGreatDoor
end
section
namespace Go.Proofs.YtabbklpalbikdaaGreatDoor
open Go.RowKit Go.Pt
end Go.Proofs.YtabbklpalbikdaaGreatDoor
end
section
namespace Go.Pt
open Go.RowKit
def I64 (x : Int) : Prop := -9223372036854775808 ≤ x ∧ x ≤ 9223372036854775807
theorem wf64 {t : Int} (h : I64 t) : (Lit.int .i64 t).wf = true := by
 simp only [Lit.wf,Bool.and_eq_true,decide_eq_true_eq]
 exact h
theorem keyOf64 {P : Program} {k : TypeId} [hk : TyD P k (.int .i64)] {t : Int} (h : I64 t) : keyOf P k (.int .i64 t) = some (.int .i64 t) := by
 simp [keyOf,mapKey,hk.out,wf64 h]
section
variable {P : Program} {md : Md} {ops : Array Oper} {N : Nat} {rest : List Oper} {Γ : Env} {Q : Exit → Act → World → Prop} {d : Nat} {ty : TypeId} {pos : String} {af : Array Edge} {w0 : World} {H : List Blk} {mt k e : TypeId}
end
end Go.Pt
end
section
namespace Go.Pt
open Go.RowKit
def Kd (kd : Nat → IntKind) (n : Nat) (cs : List Value) : Prop := cs.length = n ∧ ∀ i,i < n → ∃ x : Int,cs[i]? = some (.int (kd i) x)
theorem Kd.set {kd : Nat → IntKind} {n i : Nat} {cs : List Value} {x : Int} {k : IntKind} (h : Kd kd n cs) (hk : kd i = k) : Kd kd n (cs.set i (.int k x)) := by
 refine ⟨by rw [List.length_set];exact h.1,fun j hj => ?_⟩
 rw [List.getElem?_set]
 split
 ·rename_i e
  subst e
  rw [if_pos (h.1 ▸ hj),hk]
  exact ⟨x,rfl⟩
 ·exact h.2 j hj
theorem Kd.mk' {kd : Nat → IntKind} {n : Nat} {g : Nat → Int} : Kd kd n ((List.range n).map fun i => Value.int (kd i) (g i)) :=
 ⟨by simp,fun i hi => ⟨g i,by simp [hi]⟩⟩
theorem LSet.of {l : List Value} {i : Nat} {v : Value} (h : i < l.length) : LSet l i v (l.set i v) := by
 induction l generalizing i with
 | nil => simp at h
 | cons x r ih =>
  cases i with
  | zero => exact .z
  | succ i => exact .s (ih (by simpa using h))
section
variable {P : Program} {md : Md} {ops : Array Oper} {N : Nat} {rest : List Oper} {Γ : Env} {Q : Exit → Act → World → Prop} {d : Nat} {ty : TypeId} {pos : String} {af : Array Edge} {w0 : World} {H : List Blk} {t bt : TypeId} {x y : Operand}
theorem Wl.load9 [TyC P t] {c i n : Nat} {k : IntKind} {kd : Nat → IntKind} {v0 v1 v2 v3 v4 v5 v6 v7 v8 : Value} {cs : List Value} (hd : Nat.blt d N = true) (hx : ev Γ x = some (.pointer (some ⟨c,i,none⟩)))
  (hm : (⟨c,v0 :: v1 :: v2 :: v3 :: v4 :: v5 :: v6 :: v7 :: v8 :: cs,bt⟩ : Blk) ∈ H) (hk : Kd kd n cs) (h9 : 9 ≤ i) (hi : i - 9 < n) (hkd : kd (i - 9) = k) (h : ∀ z : Int,Wl rest P md ops N ((d,.int k z) :: Γ) (Hp w0 H) Q) :
  Wl (⟨some d,.load t x,ty,pos,af,none⟩ :: rest) P md ops N Γ (Hp w0 H) Q := by
 obtain ⟨z,hz⟩ := hk.2 _ hi
 rw [hkd] at hz
 refine Wl.loadH hd hx hm ?_ (h z)
 obtain ⟨j,rfl⟩ := Nat.exists_eq_add_of_le h9
 rw [show 9 + j - 9 = j by omega] at hz
 rw [show 9 + j = j + 9 by omega]
 simpa using hz
end
def fkd (i : Nat) : IntKind := if i < 16 then .u8 else if i < 32 then .u32 else .u64
theorem fkd8 {i : Nat} (h : i < 16) : fkd i = .u8 := if_pos h
theorem fkd32 {i : Nat} (h : 16 ≤ i) (h2 : i < 32) : fkd i = .u32 := by unfold fkd;rw [if_neg ze,if_pos h2]
theorem fkd64 {i : Nat} (h : 32 ≤ i) : fkd i = .u64 := by unfold fkd;rw [if_neg ze,if_neg ze]
end Go.Pt
end
section
namespace Go.Pt
open Go.RowKit
section bin32
variable {P : Program} {md : Md} {ops : Array Oper} {N : Nat} {rest : List Oper} {Γ : Env} {C : World → Prop} {Q : Exit → Act → World → Prop} {d : Nat} {ty : TypeId} {pos : String} {af : Array Edge} {t u : TypeId} {x y : Operand} {m n : Int}
theorem Wl.add32 (hd : Nat.blt d N = true) (hx : ev Γ x = some (.int .u32 m)) (hy : ev Γ y = some (.int .u32 n)) (hb : 0 ≤ m + n ∧ m + n ≤ 4294967295) (h : Wl rest P md ops N ((d,.int .u32 (m + n)) :: Γ) C Q) : Wl (⟨some d,.binOp .add t x y u,ty,pos,af,none⟩ :: rest) P md ops N Γ C Q :=
 Wl.add hd hx hy jd
theorem Wl.sub32 (hd : Nat.blt d N = true) (hx : ev Γ x = some (.int .u32 m)) (hy : ev Γ y = some (.int .u32 n)) (hb : 0 ≤ m - n ∧ m - n ≤ 4294967295) (h : Wl rest P md ops N ((d,.int .u32 (m - n)) :: Γ) C Q) : Wl (⟨some d,.binOp .sub t x y u,ty,pos,af,none⟩ :: rest) P md ops N Γ C Q :=
 Wl.sub' hd hx hy jd
theorem Wl.mul32 (hd : Nat.blt d N = true) (hx : ev Γ x = some (.int .u32 m)) (hy : ev Γ y = some (.int .u32 n)) (hb : 0 ≤ m * n ∧ m * n ≤ 4294967295) (h : Wl rest P md ops N ((d,.int .u32 (m * n)) :: Γ) C Q) : Wl (⟨some d,.binOp .mul t x y u,ty,pos,af,none⟩ :: rest) P md ops N Γ C Q :=
 Wl.mul hd hx hy jd
end bin32
end Go.Pt
namespace Go.Proofs.YtabbklpalbikdaaGreatDoor
open Go.RowKit Go.Pt
theorem Hp.same {w w' : World} {c t : Nat} {cs : List Value} (h : Hp w [⟨c,cs,t⟩] w') (hc : w.heap[c]? = some (.cells cs.toArray t (0,0))) : Hp w [] w' :=
 ⟨⟨h.upd.os,h.upd.tape,h.upd.output,h.upd.size,fun k hk _ => by
  by_cases e : k = c
  ·subst e;rw [hc];exact h.own.1
  ·exact h.upd.block k hk fun y => y ⟨fun e' => e e'.symm,trivial⟩⟩,trivial,trivial⟩
theorem Hp.turned {w w' : World} {c t : Nat} {cs : List Value} (h : Hp w [⟨c,cs,t⟩] w') : Upd (fun k => k = c) w w' :=
 h.upd.mono fun k _ hs => Classical.byContradiction fun y => hs ⟨fun e => y e.symm,trivial⟩
def IsReg (n : Int) : Prop := (928 ≤ n ∧ n < 932) ∨ (944 ≤ n ∧ n < 960) ∨ (3857 ≤ n ∧ n < 3861) ∨ n = 768 ∨ n = 769 ∨ n = 772 ∨ n = 773 ∨ (832 ≤ n ∧ n < 837) ∨ n = 2816 ∨ n = 2818 ∨ n = 2944 ∨ n = 2946
instance (n : Int) : Decidable (IsReg n) := by unfold IsReg;infer_instance
def FF (w : World) (c : Nat) (md tv : Int) : Prop := ∃ st mie mip sc ep ca tl : Int,∃ cs : List Value,Kd fkd 34 cs ∧
 w.heap[c]? = some (.cells (.int .i64 md :: .int .u32 st :: .int .u32 mie :: .int .u32 mip :: .int .u32 tv :: .int .u32 sc :: .int .u32 ep :: .int .u32 ca :: .int .u32 tl :: cs).toArray 145 (0,0))
set_option maxHeartbeats 4000000 in
theorem fread_any (c : Nat) (n : Int) (md st mie mip tv sc ep ca tl : Int) (cs : List Value) (w : World) (hn : 0 ≤ n ∧ n < 4294967296) (hk : Kd fkd 34 cs)
  (hc : w.heap[c]? = some (.cells (.int .i64 md :: .int .u32 st :: .int .u32 mie :: .int .u32 mip :: .int .u32 tv :: .int .u32 sc :: .int .u32 ep :: .int .u32 ca :: .int .u32 tl :: cs).toArray 145 (0,0))) :
  Calls Tryz.prog 109 #[.pointer (some ⟨c,0,none⟩),.int .u32 n] w fun e w' => (∃ v,e = .returned (.tuple #[.int .u32 v,.bool (decide (IsReg n))])) ∧ Hp w [] w' := by
 refine enter (args := [_,_]) (Γ := [(0,_),(1,_)]) Tryz.func109 Tryz.ntmps109 rfl (of_decide_eq_true rfl) (.cons rfl (.cons rfl .nil)) ?_
 refine St.cls (C' := Hp w [⟨c,.int .i64 md :: .int .u32 st :: .int .u32 mie :: .int .u32 mip :: .int .u32 tv :: .int .u32 sc :: .int .u32 ep :: .int .u32 ca :: .int .u32 tl :: cs,145⟩]) (fun _ h' => Hp.open h' hc) ?_
 repeat' first | (apply Wl.load9;exact rfl;exact rfl;exact kg;exact hk;omega;omega;(first | exact fkd8 ze | exact fkd32 ze ze | exact fkd64 ze);intro z) | (refine Wl.sub32 rfl rfl rfl ?_ ?_;constructor <;> omega) | refine Wl.move rfl rfl ?_ | refine Wl.assign rfl rfl ?_ | (apply Wl.on;exact rfl;exact rfl;exact ka) | (apply Wl.off;exact rfl;exact rfl;exact rfl;exact kq) | refine Wl.nilCheck rfl rfl ?_ | (apply Wl.pickT;exact rfl;exact rfl;exact ka;exact rfl) | (apply Wl.pickF;exact rfl;exact rfl;exact ka;exact rfl) | refine Wl.fieldAddrZ rfl rfl ?_ | (apply Wl.loadH;exact rfl;exact rfl;exact kg;exact rfl) | refine Wl.eqlPN rfl rfl rfl ?_ | refine Wl.eql rfl rfl rfl ?_ | refine Wl.lss rfl rfl rfl ?_ | refine Wl.geq rfl rfl rfl ?_ | (refine Wl.shr rfl rfl rfl ?_ ?_;omega) | refine Wl.convI rfl rfl ?_ | (refine Wl.indexArr rfl rfl rfl ?_ ?_;constructor <;> omega) | apply Wl.nil | apply St.seq | apply St.block | apply St.region | (apply St.condF;exact rfl;exact ka) | apply St.ret | apply St.skip | apply Gt.next | apply Gt.thenRet | apply Gt.inNormal | apply Gt.inRet | (apply Gt.out2;exact rfl;exact rfl;exact rfl;intro w' hp) | (apply Wl.splitP;exact rfl;exact rfl;all_goals (intros;try (exfalso;omega))) | (apply Wl.splitB;exact rfl;exact rfl;all_goals intros) | (apply St.condP;exact rfl;all_goals (intros;try (exfalso;omega))) | (apply St.condB;exact rfl;all_goals intros)
 ·refine St.loop (σ := Int × Int) (fun τ => 0 ≤ τ.1 ∧ τ.1 ≤ 4) (fun τ => [(18,.int .i64 τ.1),(6,.int .u32 τ.2),(0,.pointer (some ⟨c,0,none⟩)),(1,.int .u32 n)])
   (fun _ => Hp w [⟨c,.int .i64 md :: .int .u32 st :: .int .u32 mie :: .int .u32 mip :: .int .u32 tv :: .int .u32 sc :: .int .u32 ep :: .int .u32 ca :: .int .u32 tl :: cs,145⟩]) (fun τ => (4 - τ.1).toNat) (0,0) qv kx (fun _ h => h) ?_
  rintro ⟨i,x⟩ ⟨hi0,hi⟩
  simp only at hi0 hi ⊢
  repeat' first | (apply Wl.load9;exact rfl;exact rfl;exact kg;exact hk;omega;omega;exact fkd8 ze;intro z) | (refine Wl.sub32 rfl rfl rfl ?_ ?_;constructor <;> omega) | (refine Wl.mul32 rfl rfl rfl ?_ ?_;constructor <;> omega) | (refine Wl.add32 rfl rfl rfl ?_ ?_;constructor <;> omega) | refine Wl.move rfl rfl ?_ | refine Wl.assign rfl rfl ?_ | refine Wl.nilCheck rfl rfl ?_ | refine Wl.fieldAddrZ rfl rfl ?_ | refine Wl.lss rfl rfl rfl ?_ | (refine Wl.addI rfl rfl rfl ?_ ?_;constructor <;> omega) | (refine Wl.mulI rfl rfl rfl ?_ ?_;constructor <;> omega) | refine Wl.or rfl rfl rfl ?_ | (refine Wl.shl rfl rfl rfl ?_ ?_;omega) | (refine Wl.convU32 rfl rfl ?_ ?_;constructor <;> omega) | refine Wl.convI rfl rfl ?_ | (refine Wl.indexArr rfl rfl rfl ?_ ?_;constructor <;> omega) | apply Wl.nil | apply St.seq | apply St.block | apply St.region | apply St.ret | apply St.skip | apply St.exit | apply Gt.next | apply Gt.thenRet | apply Gt.thenExit | apply Gt.inNormal | apply Gt.inRet | apply Gt.inExit | (apply Gt.out2;exact rfl;exact rfl;exact rfl;intro w' hp) | (apply Wl.splitP;exact rfl;exact rfl;all_goals (intros;try (exfalso;omega))) | (apply Wl.splitB;exact rfl;exact rfl;all_goals intros) | (apply St.condP;exact rfl;all_goals (intros;try (exfalso;omega))) | (apply St.condB;exact rfl;all_goals intros)
  ·apply Gt.round (i + 1,_)
   rotate_left
   ·simp only;omega
   ·repeat constructor
   ·exact fun _ h => h
   ·simp only;omega
  ·exact ⟨⟨_,by rw [decide_eq_true (show IsReg n by unfold IsReg;omega)]⟩,Hp.same hp hc⟩
 all_goals first
  | exact ⟨⟨_,by rw [decide_eq_true (show IsReg n by unfold IsReg;omega)]⟩,Hp.same hp hc⟩
  | exact ⟨⟨_,by rw [decide_eq_false (show ¬ IsReg n by unfold IsReg;omega)]⟩,Hp.same hp hc⟩
end Go.Proofs.YtabbklpalbikdaaGreatDoor
end
section
namespace Go.Proofs.YtabbklpalbikdaaGreatDoor
open Go.RowKit Go.Pt
theorem low2 (x : Int) (h : 0 ≤ x ∧ x < 4294967296) : bits .andNot .u32 x 3 = x - x % 4 := by
 obtain ⟨n,rfl⟩ := Int.eq_ofNat_of_zero_le h.1
 have hn : n < 4294967296 := by omega
 have := u32_andNot_nat n 3 hn zi
 rw [show ((3 : Nat) : Int) = 3 from rfl] at this
 have e : n &&& (4294967295 - 3) = n - n % 4 := by
  have h1 : n - n % 4 = 4 * (n / 4) := by omega
  rw [h1]
  apply Nat.eq_of_testBit_eq
  intro j
  rw [Nat.testBit_and,show 4 * (n / 4) = (n >>> 2) <<< 2 by rw [Nat.shiftRight_eq_div_pow,Nat.shiftLeft_eq];omega,Nat.testBit_shiftLeft,Nat.testBit_shiftRight]
  by_cases hj : j < 2
  ·have : j = 0 ∨ j = 1 := by omega
   rcases this with rfl | rfl <;> simp <;> (intro _;decide)
  ·by_cases h32 : j < 32
   ·have hb : ∀ k : Fin 32,2 ≤ k.val → Nat.testBit (4294967295 - 3) k.val = true := by decide
    rw [hb ⟨j,h32⟩ q5]
    simp only [Bool.and_true]
    rw [show 2 + (j - 2) = j by omega]
    simp;omega
   ·have : n.testBit j = false := Nat.testBit_lt_two_pow (by calc n < 2 ^ 32 := hn
                                   _ ≤ 2 ^ j := Nat.pow_le_pow_right zi ze)
    rw [show 2 + (j - 2) = j by omega,this]
    simp
 rw [e] at this
 rw [this];omega
end Go.Proofs.YtabbklpalbikdaaGreatDoor
end
section
namespace Go.Proofs.YtabbklpalbikdaaGreatDoor
open Go.RowKit Go.Pt
theorem cell_old {w : World} {a : Addr} {v : Value} (h : w.cell? a = some v) : a.block < w.heap.size := World.block_lt_of_cell? w _ h
end Go.Proofs.YtabbklpalbikdaaGreatDoor
end
section
namespace Go.Pt
open Go.RowKit
section binE
variable {P : Program} {md : Md} {ops : Array Oper} {N : Nat} {rest : List Oper} {Γ : Env} {C : World → Prop} {Q : Exit → Act → World → Prop} {d : Nat} {ty : TypeId} {pos : String} {af : Array Edge} {t u : TypeId} {x y : Operand} {m n : Int}
end binE
end Go.Pt
namespace Go.Proofs.YtabbklpalbikdaaGreatDoor
open Go.RowKit Go.Pt
end Go.Proofs.YtabbklpalbikdaaGreatDoor
end
section
namespace Go.Proofs.YtabbklpalbikdaaGreatDoor
open Go.RowKit Go.Pt
theorem cell_of {w : World} {c i : Nat} {cs : List Value} {t : TypeId} {v : Value} (h : w.heap[c]? = some (.cells cs.toArray t (0,0))) (hi : cs[i]? = some v) : w.cell? ⟨c,i,none⟩ = some v := by
 rw [cellAt h];simpa using hi
end Go.Proofs.YtabbklpalbikdaaGreatDoor
end
section
namespace Go.Proofs.YtabbklpalbikdaaGreatDoor
open Go.RowKit Go.Pt
def fzero : List Value := [.int .u8 0,.int .u8 0,.int .u8 0,.int .u8 0,.int .u8 0,.int .u8 0,.int .u8 0,.int .u8 0,.int .u8 0,.int .u8 0,.int .u8 0,.int .u8 0,.int .u8 0,.int .u8 0,.int .u8 0,.int .u8 0,
 .int .u32 0,.int .u32 0,.int .u32 0,.int .u32 0,.int .u32 0,.int .u32 0,.int .u32 0,.int .u32 0,.int .u32 0,.int .u32 0,.int .u32 0,.int .u32 0,.int .u32 0,.int .u32 0,.int .u32 0,.int .u32 0,.int .u64 0,.int .u64 0]
theorem fzero_kd : Kd fkd 34 fzero := by
 have : fzero = (List.range 34).map fun i => Value.int (fkd i) ((fun _ => 0 : Nat → Int) i) := by rfl
 rw [this];exact Kd.mk'
end Go.Proofs.YtabbklpalbikdaaGreatDoor
end
section
namespace Go.Pt
open Go.RowKit
def memC (f : Nat → Int) : List Value := (List.range 65536).map fun j => Value.int .u8 (f j)
def updI (f : Nat → Int) (i : Nat) (x : Int) : Nat → Int := fun j => if j = i then x else f j
theorem memC_len (f : Nat → Int) : (memC f).length = 65536 := by unfold memC;rw [List.length_map,List.length_range]
theorem memC_get {i : Nat} {f : Nat → Int} (h : i < 65536) : (memC f)[i]? = some (.int .u8 (f i)) := by
 unfold memC
 rw [List.getElem?_map,List.getElem?_range h];rfl
theorem memC_set {i : Nat} {x : Int} {f : Nat → Int} (h : i < 65536) : LSet (memC f) i (.int .u8 x) (memC (updI f i x)) := by
 have e : memC (updI f i x) = (memC f).set i (.int .u8 x) := by
  apply List.ext_getElem?
  intro j
  rw [List.getElem?_set]
  by_cases hj : j < 65536
  ·rw [memC_get hj]
   by_cases e : i = j
   ·subst e;rw [if_pos rfl,if_pos (by rw [memC_len];exact h)];simp [updI]
   ·rw [if_neg e,memC_get hj];rw [updI,if_neg (fun h => e h.symm)]
  ·rw [List.getElem?_eq_none (by rw [memC_len];omega)]
   rw [if_neg ze,List.getElem?_eq_none (by rw [memC_len];omega)]
 rw [e]
 exact LSet.of (by rw [memC_len];exact h)
def isZ (v : Value) : Bool := match v with
 | .int .u8 n => n == 0
 | _ => false
theorem isZ_all {l : List Value} (h : l.all isZ = true) (hl : l.length = 65536) : l = memC fun _ => 0 := by
 apply List.ext_getElem?
 intro j
 by_cases hj : j < 65536
 ·rw [memC_get hj]
  rw [List.all_eq_true] at h
  have hm := h l[j] (List.getElem_mem _)
  rw [List.getElem?_eq_getElem ze]
  congr 1
  revert hm
  generalize l[j] = v
  intro hm
  unfold isZ at hm
  split at hm
  ·simp only [beq_iff_eq] at hm;rw [hm]
  ·cases hm
 ·rw [List.getElem?_eq_none ze,List.getElem?_eq_none (by rw [memC_len];omega)]
section
variable {P : Program} {md : Md} {N : Nat} {ops : Array Oper} {rest : List Oper} {Γ : Env} {Q : Exit → Act → World → Prop} {d : Nat} {ty : TypeId} {pos : String} {af : Array Edge} {t : TypeId} {x y : Operand}
theorem Wl.loadM {w0 : World} {H : List Blk} {bt : TypeId} [TyC P t] {c j : Nat} {f : Nat → Int} (hd : Nat.blt d N = true) (hx : ev Γ x = some (.pointer (some ⟨c,j,none⟩))) (hm : (⟨c,memC f,bt⟩ : Blk) ∈ H) (hj : j < 65536)
  (h : Wl rest P md ops N ((d,.int .u8 (f j)) :: Γ) (Hp w0 H) Q) : Wl (⟨some d,.load t x,ty,pos,af,none⟩ :: rest) P md ops N Γ (Hp w0 H) Q := Wl.loadH hd hx hm (memC_get hj) h
theorem Wl.storeM {w0 : World} {H H' : List Blk} {bt by_ : TypeId} [TyS P t 1 by_] {c j : Nat} {v : Int} {f : Nat → Int} (hx : ev Γ x = some (.pointer (some ⟨c,j,none⟩))) (hy : ev Γ y = some (.int .u8 v)) (hs : HSet c (memC f) (memC (updI f j v)) bt H H') (hj : j < 65536)
  (h : Wl rest P .seq ops N Γ (Hp w0 H') Q) : Wl (⟨none,.store t x y,ty,pos,af,none⟩ :: rest) P .seq ops N Γ (Hp w0 H) Q := Wl.store hx hy rfl hs (memC_set hj) h
end
attribute [irreducible] memC
def loadX (f : Nat → Int) (a : Nat) : Nat → Int
 | 0 => 0
 | i + 1 => bits .or .u32 (loadX f a i) (IntKind.u32.wrap (IntKind.u32.wrap (f (a + i)) * 2 ^ min (Int.toNat (8 * (i : Int))) IntKind.u32.bits))
theorem loadX_succ (f : Nat → Int) (a i : Nat) : loadX f a (i + 1) = bits .or .u32 (loadX f a i) (IntKind.u32.wrap (IntKind.u32.wrap (f (a + i)) * 2 ^ min (Int.toNat (8 * (i : Int))) IntKind.u32.bits)) := rfl
def storeX (f : Nat → Int) (a : Nat) (x : Int) : Nat → Nat → Int
 | 0 => f
 | i + 1 => updI (storeX f a x i) (a + i) (IntKind.u8.wrap (x.fdiv (2 ^ min (Int.toNat (8 * (i : Int))) IntKind.u32.bits)))
theorem storeX_out {f : Nat → Int} {a n j : Nat} {x : Int} (h : j < a ∨ a + n ≤ j) : storeX f a x n j = f j := by
 induction n with
 | zero => rfl
 | succ n ih => unfold storeX updI;rw [if_neg ze,ih ze]
end Go.Pt
namespace Go.Proofs.YtabbklpalbikdaaGreatDoor
open Go.RowKit Go.Pt
theorem zcells : Tryz.zeroCells156.toList = memC fun _ => 0 := isZ_all kj (by rw [Array.length_toList];exact Tryz.zeroCells156_size)
theorem tyP0 : TyP Tryz.prog 156 [(0,65536)] Tryz.zeroCells156.toList := ⟨by kernel_rfl⟩
instance tyPM : TyP Tryz.prog 156 [(0,65536)] (memC fun _ => 0) := zcells ▸ tyP0
theorem newMem (w : World) : Calls Tryz.prog 41 #[] w fun e w' => ∃ c,e = .returned (.pointer (some ⟨c,0,none⟩)) ∧ Hp w [⟨c,memC fun _ => 0,156⟩] w' ∧ w.heap.size ≤ c := by
 refine enter (args := []) (Γ := []) Tryz.func41 Tryz.ntmps41 rfl (of_decide_eq_true rfl) .nil ?_
 repeat' first | refine Wl.assign rfl rfl ?_ | (apply Wl.buildS;exact rfl;exact kv;exact kf) | (apply Wl.boxA;exact rfl;exact rfl;intro c hc ho) | apply Wl.nil | apply St.seq | apply St.region | apply St.ret | apply Gt.next | (apply Gt.out1;exact rfl;exact rfl;intro w' hp) | (apply Wl.splitP;exact rfl;exact rfl;all_goals (intros;try (exfalso;omega))) | (apply Wl.splitB;exact rfl;exact rfl;all_goals intros) | (apply St.condP;exact rfl;all_goals (intros;try (exfalso;omega))) | (apply St.condB;exact rfl;all_goals intros)
 exact ⟨_,rfl,hp,by assumption⟩
theorem within_mem (a n b m : Int) (w : World) (ha : 0 ≤ a ∧ a < 4294967296) (hn : 0 ≤ n ∧ n < 4294967296) (hb : 0 ≤ b ∧ b < 4294967296) (hm : 0 ≤ m ∧ m < 4294967296) :
  Calls Tryz.prog 127 #[.int .u32 a,.int .u32 n,.int .u32 b,.int .u32 m] w fun e w' => e = .returned (.bool (decide (b ≤ a ∧ a + n ≤ b + m))) ∧ Hp w [] w' := by
 refine enter (args := [_,_,_,_]) (Γ := [(0,_),(1,_),(2,_),(3,_)]) Tryz.func127 Tryz.ntmps127 rfl (of_decide_eq_true rfl) (.cons rfl (.cons rfl (.cons rfl (.cons rfl .nil)))) ?_
 repeat' first | refine Wl.move rfl rfl ?_ | refine Wl.assign rfl rfl ?_ | (apply Wl.on;exact rfl;exact rfl;exact ka) | (apply Wl.off;exact rfl;exact rfl;exact rfl;exact kq) | (apply Wl.pickT;exact rfl;exact rfl;exact ka;exact rfl) | (apply Wl.pickF;exact rfl;exact rfl;exact ka;exact rfl) | refine Wl.leq rfl rfl rfl ?_ | refine Wl.geq rfl rfl rfl ?_ | (refine Wl.addU rfl rfl rfl ?_ ?_;constructor <;> omega) | (refine Wl.convU64 rfl rfl ?_ ?_;constructor <;> omega) | apply Wl.nil | apply St.seq | apply St.region | apply St.ret | apply Gt.next | (apply Gt.out1;exact rfl;exact rfl;intro w' hp) | (apply Wl.splitP;exact rfl;exact rfl;all_goals (intros;try (exfalso;omega))) | (apply Wl.splitB;exact rfl;exact rfl;all_goals intros) | (apply St.condP;exact rfl;all_goals (intros;try (exfalso;omega))) | (apply St.condB;exact rfl;all_goals intros)
 ·rename_i h1 _
  exact ⟨by simp [h1],hp⟩
 ·rename_i h1 _
  exact ⟨by simp [h1],hp⟩
theorem has_any (c : Nat) (a n : Int) (w : World) (ha : 0 ≤ a ∧ a < 4294967296) (hn : 0 ≤ n ∧ n < 4294967296) :
  Calls Tryz.prog 76 #[.pointer (some ⟨c,0,none⟩),.int .u32 a,.int .u32 n] w fun e w' => e = .returned (.bool (decide (2147483648 ≤ a ∧ a + n ≤ 2147483648 + 65536))) ∧ Hp w [] w' := by
 refine enter (args := [_,_,_]) (Γ := [(0,_),(1,_),(2,_)]) Tryz.func76 Tryz.ntmps76 rfl (of_decide_eq_true rfl) (.cons rfl (.cons rfl (.cons rfl .nil))) ?_
 repeat' first | refine Wl.move rfl rfl ?_ | refine Wl.assign rfl rfl ?_ | (apply Wl.on;exact rfl;exact rfl;exact ka) | refine Wl.neqPN rfl rfl rfl ?_ | apply Wl.nil | apply St.seq | apply St.region | apply Gt.next | (apply Wl.splitP;exact rfl;exact rfl;all_goals (intros;try (exfalso;omega))) | (apply Wl.splitB;exact rfl;exact rfl;all_goals intros) | (apply St.condP;exact rfl;all_goals (intros;try (exfalso;omega))) | (apply St.condB;exact rfl;all_goals intros)
 apply Wl.callQ
 exact rfl
 (focus repeat constructor)
 ·intro wq hq
  exact hq.q (within_mem a n 2147483648 65536 wq ha hn zi zi)
 repeat' first | refine Wl.assign rfl rfl ?_ | (apply Wl.pickT;exact rfl;exact rfl;exact ka;exact rfl) | apply Wl.nil | apply St.ret | apply Gt.next | (apply Gt.out1;exact rfl;exact rfl;intro w' hp) | (apply Wl.splitP;exact rfl;exact rfl;all_goals (intros;try (exfalso;omega))) | (apply Wl.splitB;exact rfl;exact rfl;all_goals intros) | (apply St.condP;exact rfl;all_goals (intros;try (exfalso;omega))) | (apply St.condB;exact rfl;all_goals intros)
 exact ⟨rfl,hp⟩
def W124 (n : Int) : Prop := n = 1 ∨ n = 2 ∨ n = 4
set_option maxHeartbeats 4000000 in
theorem mload (c : Nat) (a n : Int) (f : Nat → Int) (w : World) (ha : 0 ≤ a ∧ a < 4294967296) (hn : W124 n) (hc : w.heap[c]? = some (.cells (memC f).toArray 156 (0,0))) :
  Calls Tryz.prog 114 #[.pointer (some ⟨c,0,none⟩),.int .u32 a,.int .i64 n] w fun e w' => e = .returned (if 2147483648 ≤ a ∧ a + n ≤ 2147483648 + 65536 then .tuple #[.int .u32 (loadX f (a - 2147483648).toNat n.toNat),.int .i64 0] else .tuple #[.int .u32 0,.int .i64 18]) ∧ Hp w [] w' := by
 unfold W124 at hn
 refine enter (args := [_,_,_]) (Γ := [(0,_),(1,_),(2,_)]) Tryz.func114 Tryz.ntmps114 rfl (of_decide_eq_true rfl) (.cons rfl (.cons rfl (.cons rfl .nil))) ?_
 refine St.cls (C' := Hp w [⟨c,memC f,156⟩]) (fun _ h' => Hp.open h' hc) ?_
 repeat' first | refine Wl.move rfl rfl ?_ | refine Wl.assign rfl rfl ?_ | (apply Wl.on;exact rfl;exact rfl;exact ka) | (apply Wl.off;exact rfl;exact rfl;exact rfl;exact kq) | (apply Wl.pickT;exact rfl;exact rfl;exact ka;exact rfl) | (apply Wl.pickF;exact rfl;exact rfl;exact ka;exact rfl) | refine Wl.neq rfl rfl rfl ?_ | (refine Wl.convU32 rfl rfl ?_ ?_;constructor <;> omega) | apply Wl.nil | apply St.seq | apply St.region | apply Gt.next | (apply Wl.splitP;exact rfl;exact rfl;all_goals (intros;try (exfalso;omega))) | (apply Wl.splitB;exact rfl;exact rfl;all_goals intros) | (apply St.condP;exact rfl;all_goals (intros;try (exfalso;omega))) | (apply St.condB;exact rfl;all_goals intros)
 all_goals
  apply Wl.callQ
  exact rfl
  (focus repeat constructor)
  ·intro wq hq
   exact hq.q (has_any c a n wq ha qy)
  by_cases hh : 2147483648 ≤ a ∧ a + n ≤ 2147483648 + 65536
  ·rw [decide_eq_true hh,if_pos hh]
   repeat' first | refine Wl.move rfl rfl ?_ | refine Wl.assign rfl rfl ?_ | (apply Wl.on;exact rfl;exact rfl;exact ka) | (apply Wl.pickF;exact rfl;exact rfl;exact ka;exact rfl) | refine Wl.not rfl rfl ?_ | apply Wl.nil | apply St.seq | apply St.block | apply St.region | (apply St.condF;exact rfl;exact ka) | apply St.skip | apply Gt.next | (apply Wl.splitP;exact rfl;exact rfl;all_goals (intros;try (exfalso;omega))) | (apply Wl.splitB;exact rfl;exact rfl;all_goals intros) | (apply St.condP;exact rfl;all_goals (intros;try (exfalso;omega))) | (apply St.condB;exact rfl;all_goals intros)
   refine St.loop (σ := Nat) (fun i => (i : Int) ≤ n) (fun i => [(29,.int .i64 i),(28,.int .i64 n),(8,.int .u32 (loadX f (a - 2147483648).toNat i)),(0,.pointer (some ⟨c,0,none⟩)),(1,.int .u32 a)])
    (fun _ => Hp w [⟨c,memC f,156⟩]) (fun i => n.toNat - i) 0 (by show ((0 : Nat) : Int) ≤ n;omega) kx (fun _ h => h) ?_
   intro i hi
   by_cases hlt : (i : Int) < n
   ·repeat' first | (apply Wl.loadM;exact rfl;exact rfl;exact kg;omega) | (refine Wl.sub32 rfl rfl rfl ?_ ?_;constructor <;> omega) | (refine Wl.add32 rfl rfl rfl ?_ ?_;constructor <;> omega) | refine Wl.move rfl rfl ?_ | refine Wl.assign rfl rfl ?_ | refine Wl.nilCheck rfl rfl ?_ | refine Wl.fieldAddr0 rfl rfl ?_ | refine Wl.lss rfl rfl rfl ?_ | (refine Wl.addI rfl rfl rfl ?_ ?_;constructor <;> omega) | (refine Wl.mulI rfl rfl rfl ?_ ?_;constructor <;> omega) | refine Wl.or rfl rfl rfl ?_ | (refine Wl.shl rfl rfl rfl ?_ ?_;omega) | (refine Wl.convU32 rfl rfl ?_ ?_;constructor <;> omega) | refine Wl.convI rfl rfl ?_ | (refine Wl.indexArr rfl rfl rfl ?_ ?_;constructor <;> omega) | apply Wl.nil | apply St.seq | apply St.block | apply St.region | apply St.skip | apply Gt.next | apply Gt.inNormal | (apply Wl.splitP;exact rfl;exact rfl;all_goals (intros;try (exfalso;omega))) | (apply Wl.splitB;exact rfl;exact rfl;all_goals intros) | (apply St.condP;exact rfl;all_goals (intros;try (exfalso;omega))) | (apply St.condB;exact rfl;all_goals intros)
    apply Gt.round (i + 1)
    rotate_left
    ·omega
    ·rw [loadX_succ,show (a - 2147483648).toNat + i = 0 + (a - 2147483648 + (i : Int)).toNat * 1 by omega]
     (focus repeat constructor)
    ·exact fun _ h => h
    ·omega
   ·have hie : i = n.toNat := by omega
    subst hie
    repeat' first | refine Wl.move rfl rfl ?_ | refine Wl.assign rfl rfl ?_ | refine Wl.lss rfl rfl rfl ?_ | apply Wl.nil | apply St.seq | apply St.region | apply St.ret | apply St.exit | apply Gt.next | apply Gt.thenExit | apply Gt.inExit | (apply Gt.out2;exact rfl;exact rfl;exact rfl;intro w' hp) | (apply Wl.splitP;exact rfl;exact rfl;all_goals (intros;try (exfalso;omega))) | (apply Wl.splitB;exact rfl;exact rfl;all_goals intros) | (apply St.condP;exact rfl;all_goals (intros;try (exfalso;omega))) | (apply St.condB;exact rfl;all_goals intros)
    exact ⟨rfl,Hp.same hp hc⟩
  ·rw [decide_eq_false hh,if_neg hh]
   repeat' first | refine Wl.assign rfl rfl ?_ | (apply Wl.on;exact rfl;exact rfl;exact ka) | (apply Wl.pickF;exact rfl;exact rfl;exact ka;exact rfl) | refine Wl.not rfl rfl ?_ | apply Wl.nil | apply St.seq | apply St.region | (apply St.condT;exact rfl;exact ka) | apply St.ret | apply Gt.next | apply Gt.thenRet | (apply Gt.out2;exact rfl;exact rfl;exact rfl;intro w' hp) | (apply Wl.splitP;exact rfl;exact rfl;all_goals (intros;try (exfalso;omega))) | (apply Wl.splitB;exact rfl;exact rfl;all_goals intros) | (apply St.condP;exact rfl;all_goals (intros;try (exfalso;omega))) | (apply St.condB;exact rfl;all_goals intros)
   exact ⟨rfl,Hp.same hp hc⟩
set_option maxHeartbeats 4000000 in
theorem mstore (c : Nat) (a n x : Int) (f : Nat → Int) (w : World) (ha : 0 ≤ a ∧ a < 4294967296) (hn : W124 n) (hc : w.heap[c]? = some (.cells (memC f).toArray 156 (0,0))) :
  Calls Tryz.prog 51 #[.pointer (some ⟨c,0,none⟩),.int .u32 a,.int .i64 n,.int .u32 x] w fun e w' => (∃ v,e = .returned (.int .i64 v)) ∧ Hp w [⟨c,memC (if 2147483648 ≤ a ∧ a + n ≤ 2147483648 + 65536 then storeX f (a - 2147483648).toNat x n.toNat else f),156⟩] w' := by
 unfold W124 at hn
 refine enter (args := [_,_,_,_]) (Γ := [(0,_),(1,_),(2,_),(3,_)]) Tryz.func51 Tryz.ntmps51 rfl (of_decide_eq_true rfl) (.cons rfl (.cons rfl (.cons rfl (.cons rfl .nil)))) ?_
 refine St.cls (C' := Hp w [⟨c,memC f,156⟩]) (fun _ h' => Hp.open h' hc) ?_
 repeat' first | refine Wl.move rfl rfl ?_ | refine Wl.assign rfl rfl ?_ | (apply Wl.on;exact rfl;exact rfl;exact ka) | (apply Wl.off;exact rfl;exact rfl;exact rfl;exact kq) | (apply Wl.pickT;exact rfl;exact rfl;exact ka;exact rfl) | (apply Wl.pickF;exact rfl;exact rfl;exact ka;exact rfl) | refine Wl.neq rfl rfl rfl ?_ | (refine Wl.convU32 rfl rfl ?_ ?_;constructor <;> omega) | apply Wl.nil | apply St.seq | apply St.region | apply Gt.next | (apply Wl.splitP;exact rfl;exact rfl;all_goals (intros;try (exfalso;omega))) | (apply Wl.splitB;exact rfl;exact rfl;all_goals intros) | (apply St.condP;exact rfl;all_goals (intros;try (exfalso;omega))) | (apply St.condB;exact rfl;all_goals intros)
 all_goals
  apply Wl.callQ
  exact rfl
  (focus repeat constructor)
  ·intro wq hq
   exact hq.q (has_any c a n wq ha qy)
  by_cases hh : 2147483648 ≤ a ∧ a + n ≤ 2147483648 + 65536
  ·rw [decide_eq_true hh,if_pos hh]
   repeat' first | refine Wl.move rfl rfl ?_ | (apply Wl.on;exact rfl;exact rfl;exact ka) | (apply Wl.pickF;exact rfl;exact rfl;exact ka;exact rfl) | refine Wl.not rfl rfl ?_ | apply Wl.nil | apply St.seq | apply St.block | apply St.region | (apply St.condF;exact rfl;exact ka) | apply St.skip | apply Gt.next | (apply Wl.splitP;exact rfl;exact rfl;all_goals (intros;try (exfalso;omega))) | (apply Wl.splitB;exact rfl;exact rfl;all_goals intros) | (apply St.condP;exact rfl;all_goals (intros;try (exfalso;omega))) | (apply St.condB;exact rfl;all_goals intros)
   refine St.loop (σ := Nat) (fun i => (i : Int) ≤ n) (fun i => [(29,.int .i64 i),(28,.int .i64 n),(0,.pointer (some ⟨c,0,none⟩)),(1,.int .u32 a),(3,.int .u32 x)])
    (fun i => Hp w [⟨c,memC (storeX f (a - 2147483648).toNat x i),156⟩]) (fun i => n.toNat - i) 0 (by show ((0 : Nat) : Int) ≤ n;omega) kx (fun _ h => h) ?_
   intro i hi
   by_cases hlt : (i : Int) < n
   ·repeat' first | refine Wl.move rfl rfl ?_ | refine Wl.assign rfl rfl ?_ | refine Wl.lss rfl rfl rfl ?_ | apply Wl.nil | apply St.seq | apply St.block | apply St.region | apply St.skip | apply Gt.next | (apply Wl.splitP;exact rfl;exact rfl;all_goals (intros;try (exfalso;omega))) | (apply Wl.splitB;exact rfl;exact rfl;all_goals intros) | (apply St.condP;exact rfl;all_goals (intros;try (exfalso;omega))) | (apply St.condB;exact rfl;all_goals intros)
    refine St.tree (fun _ => True) mixed (fun _ h => ⟨Hp.drew h,trivial⟩) ?_
    refine Mt.pu 0 ?_
    repeat' first | refine Wl.move rfl rfl ?_ | apply Wl.nilM | (apply Wl.splitP;exact rfl;exact rfl;all_goals (intros;try (exfalso;omega))) | (apply Wl.splitB;exact rfl;exact rfl;all_goals intros) | (apply St.condP;exact rfl;all_goals (intros;try (exfalso;omega))) | (apply St.condB;exact rfl;all_goals intros)
    apply Mt.back
    refine Mt.pu 1 ?_
    repeat' first | refine Wl.move rfl rfl ?_ | apply Wl.nilM | (apply Wl.splitP;exact rfl;exact rfl;all_goals (intros;try (exfalso;omega))) | (apply Wl.splitB;exact rfl;exact rfl;all_goals intros) | (apply St.condP;exact rfl;all_goals (intros;try (exfalso;omega))) | (apply St.condB;exact rfl;all_goals intros)
    apply Mt.back
    refine Mt.pu 2 ?_
    repeat' first | (refine Wl.sub32 rfl rfl rfl ?_ ?_;constructor <;> omega) | apply Wl.nilM | (apply Wl.splitP;exact rfl;exact rfl;all_goals (intros;try (exfalso;omega))) | (apply Wl.splitB;exact rfl;exact rfl;all_goals intros) | (apply St.condP;exact rfl;all_goals (intros;try (exfalso;omega))) | (apply St.condB;exact rfl;all_goals intros)
    apply Mt.back
    refine Mt.pu 3 ?_
    repeat' first | refine Wl.move rfl rfl ?_ | apply Wl.nilM | (apply Wl.splitP;exact rfl;exact rfl;all_goals (intros;try (exfalso;omega))) | (apply Wl.splitB;exact rfl;exact rfl;all_goals intros) | (apply St.condP;exact rfl;all_goals (intros;try (exfalso;omega))) | (apply St.condB;exact rfl;all_goals intros)
    apply Mt.back
    refine Mt.pu 4 ?_
    repeat' first | (refine Wl.convU32 rfl rfl ?_ ?_;constructor <;> omega) | apply Wl.nilM | (apply Wl.splitP;exact rfl;exact rfl;all_goals (intros;try (exfalso;omega))) | (apply Wl.splitB;exact rfl;exact rfl;all_goals intros) | (apply St.condP;exact rfl;all_goals (intros;try (exfalso;omega))) | (apply St.condB;exact rfl;all_goals intros)
    apply Mt.back
    refine Mt.pu 5 ?_
    repeat' first | (refine Wl.add32 rfl rfl rfl ?_ ?_;constructor <;> omega) | apply Wl.nilM | (apply Wl.splitP;exact rfl;exact rfl;all_goals (intros;try (exfalso;omega))) | (apply Wl.splitB;exact rfl;exact rfl;all_goals intros) | (apply St.condP;exact rfl;all_goals (intros;try (exfalso;omega))) | (apply St.condB;exact rfl;all_goals intros)
    apply Mt.back
    refine Mt.pu 6 ?_
    repeat' first | refine Wl.move rfl rfl ?_ | apply Wl.nilM | (apply Wl.splitP;exact rfl;exact rfl;all_goals (intros;try (exfalso;omega))) | (apply Wl.splitB;exact rfl;exact rfl;all_goals intros) | (apply St.condP;exact rfl;all_goals (intros;try (exfalso;omega))) | (apply St.condB;exact rfl;all_goals intros)
    apply Mt.back
    refine Mt.pu 7 ?_
    repeat' first | refine Wl.move rfl rfl ?_ | apply Wl.nilM | (apply Wl.splitP;exact rfl;exact rfl;all_goals (intros;try (exfalso;omega))) | (apply Wl.splitB;exact rfl;exact rfl;all_goals intros) | (apply St.condP;exact rfl;all_goals (intros;try (exfalso;omega))) | (apply St.condB;exact rfl;all_goals intros)
    apply Mt.back
    refine Mt.pu 8 ?_
    repeat' first | (refine Wl.mulI rfl rfl rfl ?_ ?_;constructor <;> omega) | apply Wl.nilM | (apply Wl.splitP;exact rfl;exact rfl;all_goals (intros;try (exfalso;omega))) | (apply Wl.splitB;exact rfl;exact rfl;all_goals intros) | (apply St.condP;exact rfl;all_goals (intros;try (exfalso;omega))) | (apply St.condB;exact rfl;all_goals intros)
    apply Mt.back
    refine Mt.pu 9 ?_
    repeat' first | (refine Wl.shr rfl rfl rfl ?_ ?_;omega) | apply Wl.nilM | (apply Wl.splitP;exact rfl;exact rfl;all_goals (intros;try (exfalso;omega))) | (apply Wl.splitB;exact rfl;exact rfl;all_goals intros) | (apply St.condP;exact rfl;all_goals (intros;try (exfalso;omega))) | (apply St.condB;exact rfl;all_goals intros)
    apply Mt.back
    refine Mt.pu 10 ?_
    repeat' first | refine Wl.convI rfl rfl ?_ | apply Wl.nilM | (apply Wl.splitP;exact rfl;exact rfl;all_goals (intros;try (exfalso;omega))) | (apply Wl.splitB;exact rfl;exact rfl;all_goals intros) | (apply St.condP;exact rfl;all_goals (intros;try (exfalso;omega))) | (apply St.condB;exact rfl;all_goals intros)
    apply Mt.back
    refine Mt.pu 11 ?_
    repeat' first | refine Wl.nilCheck rfl rfl ?_ | apply Wl.nilM | (apply Wl.splitP;exact rfl;exact rfl;all_goals (intros;try (exfalso;omega))) | (apply Wl.splitB;exact rfl;exact rfl;all_goals intros) | (apply St.condP;exact rfl;all_goals (intros;try (exfalso;omega))) | (apply St.condB;exact rfl;all_goals intros)
    apply Mt.back
    refine Mt.pu 12 ?_
    repeat' first | refine Wl.fieldAddr0 rfl rfl ?_ | apply Wl.nilM | (apply Wl.splitP;exact rfl;exact rfl;all_goals (intros;try (exfalso;omega))) | (apply Wl.splitB;exact rfl;exact rfl;all_goals intros) | (apply St.condP;exact rfl;all_goals (intros;try (exfalso;omega))) | (apply St.condB;exact rfl;all_goals intros)
    apply Mt.back
    refine Mt.pu 13 ?_
    repeat' first | (refine Wl.indexArr rfl rfl rfl ?_ ?_;constructor <;> omega) | apply Wl.nilM | (apply Wl.splitP;exact rfl;exact rfl;all_goals (intros;try (exfalso;omega))) | (apply Wl.splitB;exact rfl;exact rfl;all_goals intros) | (apply St.condP;exact rfl;all_goals (intros;try (exfalso;omega))) | (apply St.condB;exact rfl;all_goals intros)
    apply Mt.back
    refine Mt.eff1 (i := 14) ki zg ?_
    rw [show 0 + (a - 2147483648 + (i : Int)).toNat * 1 = (a - 2147483648).toNat + i by omega]
    apply Wl.storeM
    ·exact rfl
    ·exact rfl
    ·repeat constructor
    ·omega
    repeat' first | apply Wl.nil | (apply Wl.splitP;exact rfl;exact rfl;all_goals (intros;try (exfalso;omega))) | (apply Wl.splitB;exact rfl;exact rfl;all_goals intros) | (apply St.condP;exact rfl;all_goals (intros;try (exfalso;omega))) | (apply St.condB;exact rfl;all_goals intros)
    refine Mt.backE (fun _ h => trivial) ?_
    refine Mt.toGt ki ?_
    repeat' first | refine Wl.move rfl rfl ?_ | (refine Wl.addI rfl rfl rfl ?_ ?_;constructor <;> omega) | apply Wl.nil | apply St.region | apply Gt.next | apply Gt.inNormal | (apply Wl.splitP;exact rfl;exact rfl;all_goals (intros;try (exfalso;omega))) | (apply Wl.splitB;exact rfl;exact rfl;all_goals intros) | (apply St.condP;exact rfl;all_goals (intros;try (exfalso;omega))) | (apply St.condB;exact rfl;all_goals intros)
    apply Gt.round (i + 1)
    rotate_left
    ·omega
    ·repeat constructor
    ·exact fun _ h => h
    ·omega
   ·have hie : i = n.toNat := by omega
    subst hie
    repeat' first | refine Wl.assign rfl rfl ?_ | refine Wl.lss rfl rfl rfl ?_ | apply Wl.nil | apply St.seq | apply St.region | apply St.ret | apply St.exit | apply Gt.next | apply Gt.thenExit | apply Gt.inExit | (apply Gt.out1;exact rfl;exact rfl;intro w' hp) | (apply Wl.splitP;exact rfl;exact rfl;all_goals (intros;try (exfalso;omega))) | (apply Wl.splitB;exact rfl;exact rfl;all_goals intros) | (apply St.condP;exact rfl;all_goals (intros;try (exfalso;omega))) | (apply St.condB;exact rfl;all_goals intros)
    exact ⟨⟨_,rfl⟩,hp⟩
  ·rw [decide_eq_false hh,if_neg hh]
   repeat' first | refine Wl.assign rfl rfl ?_ | (apply Wl.on;exact rfl;exact rfl;exact ka) | (apply Wl.pickF;exact rfl;exact rfl;exact ka;exact rfl) | refine Wl.not rfl rfl ?_ | apply Wl.nil | apply St.seq | apply St.region | (apply St.condT;exact rfl;exact ka) | apply St.ret | apply Gt.next | apply Gt.thenRet | (apply Gt.out1;exact rfl;exact rfl;intro w' hp) | (apply Wl.splitP;exact rfl;exact rfl;all_goals (intros;try (exfalso;omega))) | (apply Wl.splitB;exact rfl;exact rfl;all_goals intros) | (apply St.condP;exact rfl;all_goals (intros;try (exfalso;omega))) | (apply St.condB;exact rfl;all_goals intros)
   exact ⟨⟨_,rfl⟩,hp⟩
end Go.Proofs.YtabbklpalbikdaaGreatDoor
end
section
namespace Go.Proofs.YtabbklpalbikdaaGreatDoor
open Go.RowKit Go.Pt
theorem Hp.rest {S : Nat → Prop} {w0 w w' : World} {H : List Blk} (h : Hp w0 H w) (u : Upd S w w') (hs : ∀ x ∈ H,¬ S x.b) : Hp w' H w' := ⟨Upd.refl _ _,h.own.upd u hs,h.apart⟩
end Go.Proofs.YtabbklpalbikdaaGreatDoor
end
section
namespace Go.Proofs.YtabbklpalbikdaaGreatDoor
open Go.RowKit Go.Pt
def tb (a : Int) (j : Nat) : Bool := (BitVec.ofInt 32 a).getLsbD j
theorem ofInt_toNat (x : BitVec 32) : BitVec.ofInt 32 (x.toNat : Int) = x := by
 rw [BitVec.ofInt_natCast];simp
theorem bits_and32 (a b : Int) : bits .and .u32 a b = (((BitVec.ofInt 32 a) &&& (BitVec.ofInt 32 b)).toNat : Int) := by
 show IntKind.u32.wrap (((BitVec.ofInt 32 a) &&& (BitVec.ofInt 32 b)).toNat : Int) = _
 exact IntWalk.u32_in _ ⟨by omega,by have := ((BitVec.ofInt 32 a) &&& (BitVec.ofInt 32 b)).isLt;omega⟩
theorem bits_or32 (a b : Int) : bits .or .u32 a b = (((BitVec.ofInt 32 a) ||| (BitVec.ofInt 32 b)).toNat : Int) := by
 show IntKind.u32.wrap (((BitVec.ofInt 32 a) ||| (BitVec.ofInt 32 b)).toNat : Int) = _
 exact IntWalk.u32_in _ ⟨by omega,by have := ((BitVec.ofInt 32 a) ||| (BitVec.ofInt 32 b)).isLt;omega⟩
theorem bits_andNot32 (a b : Int) : bits .andNot .u32 a b = (((BitVec.ofInt 32 a) &&& ~~~(BitVec.ofInt 32 b)).toNat : Int) := by
 show IntKind.u32.wrap (((BitVec.ofInt 32 a) &&& ~~~(BitVec.ofInt 32 b)).toNat : Int) = _
 exact IntWalk.u32_in _ ⟨by omega,by have := ((BitVec.ofInt 32 a) &&& ~~~(BitVec.ofInt 32 b)).isLt;omega⟩
theorem tb_or (a b : Int) (j : Nat) : tb (bits .or .u32 a b) j = (tb a j || tb b j) := by unfold tb;rw [bits_or32,ofInt_toNat,BitVec.getLsbD_or]
theorem tb_andNot (a b : Int) (j : Nat) (hj : j < 32) : tb (bits .andNot .u32 a b) j = (tb a j && !tb b j) := by unfold tb;rw [bits_andNot32,ofInt_toNat,BitVec.getLsbD_and,BitVec.getLsbD_not];simp [hj]
theorem and8 (a : Int) : bits .and .u32 a 8 = if tb a 3 then 8 else 0 := by
 rw [bits_and32]
 have : BitVec.ofInt 32 a &&& BitVec.ofInt 32 8 = if tb a 3 then 8#32 else 0#32 := by
  apply BitVec.eq_of_getLsbD_eq
  intro i hi
  have hb : ∀ k : Fin 32,(BitVec.ofInt 32 8).getLsbD k.val = decide (k.val = 3) := by decide
  have hb2 : ∀ k : Fin 32,(8#32).getLsbD k.val = decide (k.val = 3) := by decide
  rw [BitVec.getLsbD_and,hb ⟨i,hi⟩]
  unfold tb
  by_cases e : i = 3
  ·subst e;split <;> simp_all
  ·split
   ·rw [hb2 ⟨i,hi⟩];simp [e]
   ·simp [e]
 rw [this];split <;> rfl
set_option linter.unusedVariables false
def dueOf (md st mie mip : Int) : Bool := decide (bits .and .u32 (bits .and .u32 mie mip) 128 ≠ 0) && (decide (md = 0) || tb st 3)
set_option maxHeartbeats 4000000 in
theorem fdue (c : Nat) (md st mie mip tv sc ep ca tl : Int) (cs : List Value) (w : World) (hc : w.heap[c]? = some (.cells (.int .i64 md :: .int .u32 st :: .int .u32 mie :: .int .u32 mip :: .int .u32 tv :: .int .u32 sc :: .int .u32 ep :: .int .u32 ca :: .int .u32 tl :: cs).toArray 145 (0,0))) :
  Calls Tryz.prog 112 #[.pointer (some ⟨c,0,none⟩)] w fun e w' => e = .returned (.bool (dueOf md st mie mip)) ∧ Hp w [] w' := by
 refine enter (args := [_]) (Γ := [(0,_)]) Tryz.func112 Tryz.ntmps112 rfl (of_decide_eq_true rfl) (.cons rfl .nil) ?_
 refine St.cls (C' := Hp w [⟨c,.int .i64 md :: .int .u32 st :: .int .u32 mie :: .int .u32 mip :: .int .u32 tv :: .int .u32 sc :: .int .u32 ep :: .int .u32 ca :: .int .u32 tl :: cs,145⟩]) (fun _ h' => Hp.open h' hc) ?_
 repeat' first | refine Wl.move rfl rfl ?_ | refine Wl.assign rfl rfl ?_ | (apply Wl.on;exact rfl;exact rfl;exact ka) | (apply Wl.off;exact rfl;exact rfl;exact rfl;exact kq) | refine Wl.offU rfl rfl rfl ?_ | refine Wl.nilCheck rfl rfl ?_ | (apply Wl.pickT;exact rfl;exact rfl;exact ka;exact rfl) | (apply Wl.pickF;exact rfl;exact rfl;exact ka;exact rfl) | refine Wl.fieldAddr0 rfl rfl ?_ | refine Wl.fieldAddrZ rfl rfl ?_ | (apply Wl.loadH;exact rfl;exact rfl;exact kg;exact rfl) | refine Wl.neqPN rfl rfl rfl ?_ | refine Wl.eql rfl rfl rfl ?_ | refine Wl.neq rfl rfl rfl ?_ | refine Wl.and rfl rfl rfl ?_ | apply Wl.nil | apply Wl.nilQ | apply St.seq | apply St.region | (apply St.draw;exact mixed;(kernel_rfl);exact (fun _ h => Hp.drew h)) | apply St.ret | apply Gt.next | (apply Gt.out1;exact rfl;exact rfl;intro w' hp) | (apply Wl.splitP;exact rfl;exact rfl;all_goals (intros;try (exfalso;omega))) | (apply Wl.splitB;exact rfl;exact rfl;all_goals intros) | (apply St.condP;exact rfl;all_goals (intros;try (exfalso;omega))) | (apply St.condB;exact rfl;all_goals intros)
 ·rename_i h1 _ h2 _
  refine ⟨?_,Hp.same hp hc⟩
  unfold dueOf
  rw [decide_eq_true h1,decide_eq_true h2];rfl
 ·rename_i h1 _ h2 _
  refine ⟨?_,Hp.same hp hc⟩
  unfold dueOf
  rw [decide_eq_true h1,decide_eq_false h2,and8]
  cases tb st 3 <;> rfl
 ·rename_i h1 _
  refine ⟨?_,Hp.same hp hc⟩
  unfold dueOf
  rw [decide_eq_false h1];rfl
set_option maxHeartbeats 4000000 in
theorem ftrapX (c : Nat) (md st mie mip tv sc ep ca tl : Int) (cs : List Value) (w : World) (pc ca1 tl1 : Int) (hpc : 0 ≤ pc ∧ pc < 4294967296) (hmd : md = 0 ∨ md = 3) (hc : w.heap[c]? = some (.cells (.int .i64 md :: .int .u32 st :: .int .u32 mie :: .int .u32 mip :: .int .u32 tv :: .int .u32 sc :: .int .u32 ep :: .int .u32 ca :: .int .u32 tl :: cs).toArray 145 (0,0))) :
  Calls Tryz.prog 146 #[.pointer (some ⟨c,0,none⟩),.int .u32 pc,.int .u32 ca1,.int .u32 tl1] w fun e w' => e = .returned (.int .u32 tv) ∧ ∃ s',Hp w [⟨c,.int .i64 3 :: .int .u32 s' :: .int .u32 mie :: .int .u32 mip :: .int .u32 tv :: .int .u32 sc :: .int .u32 (pc - pc % 4) :: .int .u32 ca1 :: .int .u32 tl1 :: cs,145⟩] w' ∧
   (0 ≤ s' ∧ s' < 4294967296) ∧ tb s' 3 = false ∧ tb s' 7 = tb st 3 ∧ tb s' 11 = decide (md = 3) ∧ tb s' 12 = decide (md = 3) := by
 refine enter (args := [_,_,_,_]) (Γ := [(0,_),(1,_),(2,_),(3,_)]) Tryz.func146 Tryz.ntmps146 rfl (of_decide_eq_true rfl) (.cons rfl (.cons rfl (.cons rfl (.cons rfl .nil)))) ?_
 refine St.cls (C' := Hp w [⟨c,.int .i64 md :: .int .u32 st :: .int .u32 mie :: .int .u32 mip :: .int .u32 tv :: .int .u32 sc :: .int .u32 ep :: .int .u32 ca :: .int .u32 tl :: cs,145⟩]) (fun _ h' => Hp.open h' hc) ?_
 rw [← low2 pc hpc]
 repeat' first | refine Wl.move rfl rfl ?_ | refine Wl.assign rfl rfl ?_ | refine Wl.nilCheck rfl rfl ?_ | refine Wl.fieldAddr0 rfl rfl ?_ | refine Wl.fieldAddrZ rfl rfl ?_ | (apply Wl.loadH;exact rfl;exact rfl;exact kg;exact rfl) | refine Wl.eqlPN rfl rfl rfl ?_ | refine Wl.neq rfl rfl rfl ?_ | refine Wl.and rfl rfl rfl ?_ | refine Wl.or rfl rfl rfl ?_ | refine Wl.andNot rfl rfl rfl ?_ | (refine Wl.shl rfl rfl rfl ?_ ?_;omega) | (refine Wl.convU32 rfl rfl ?_ ?_;constructor <;> omega) | (apply Wl.store;exact rfl;exact rfl;exact rfl;exact kg;exact ky) | apply Wl.nil | apply St.seq | apply St.region | (apply St.condF;exact rfl;exact ka) | apply St.ret | apply St.skip | apply Gt.next | (apply Gt.out1;exact rfl;exact rfl;intro w' hp) | (apply Wl.splitP;exact rfl;exact rfl;all_goals (intros;try (exfalso;omega))) | (apply Wl.splitB;exact rfl;exact rfl;all_goals intros) | (apply St.condP;exact rfl;all_goals (intros;try (exfalso;omega))) | (apply St.condB;exact rfl;all_goals intros)
 all_goals
  rename_i h1 _
  refine ⟨rfl,_,hp,⟨bits_lo_u32 _ _ _,by have := bits_hi_u32;have := this BinOp.or;exact Int.lt_of_le_of_lt (this _ _) zi⟩,?_⟩
  rw [and8] at h1
  have e0 : IntKind.u32.wrap (0 * 2 ^ min (Int.toNat 11) IntKind.u32.bits) = 0 := by rfl
  have e3 : IntKind.u32.wrap (3 * 2 ^ min (Int.toNat 11) IntKind.u32.bits) = 6144 := by rfl
  rcases hmd with rfl | rfl
  all_goals
   first | rw [e0] | rw [e3]
   simp [tb_or,tb_andNot,show tb 8 3 = true from by decide,show tb 8 7 = false from by decide,show tb 8 11 = false from by decide,show tb 8 12 = false from by decide,
    show tb 6272 7 = true from by decide,show tb 6272 11 = true from by decide,show tb 6272 12 = true from by decide,show tb 128 7 = true from by decide,show tb 128 11 = false from by decide,show tb 128 12 = false from by decide,
    show tb 0 3 = false from by decide,show tb 0 7 = false from by decide,show tb 0 11 = false from by decide,show tb 0 12 = false from by decide,
    show tb 6144 3 = false from by decide,show tb 6144 7 = false from by decide,show tb 6144 11 = true from by decide,show tb 6144 12 = true from by decide]
   simpa using h1
end Go.Proofs.YtabbklpalbikdaaGreatDoor
end
section
namespace Go.Proofs.YtabbklpalbikdaaGreatDoor
end Go.Proofs.YtabbklpalbikdaaGreatDoor
end
section
namespace Go.Pt
open Go.RowKit
theorem run_neq_agg {P : Program} (w : World) {t : TypeId} {xs ys : Array Value} {la lb : List Lit} (hk : P.keyTypeAt 8 t = true) (fx : (Value.agg xs).formed P t = true) (fy : (Value.agg ys).formed P t = true) (hx : P.keyLits 8 t xs.toList = some la) (hy : P.keyLits 8 t ys.toList = some lb) :
  ∃ r : Bool,(binOp .eql t (.agg xs) (.agg ys)).run P w = .ok (.bool r) w ∧ (binOp .neq t (.agg xs) (.agg ys)).run P w = .ok (.bool (!r)) w ∧ (r = true ↔ la = lb) := by
 obtain ⟨r,hr,hiff⟩ := run_equalIn_deep 9992 8 t hk w 8 8 (.agg xs) (.agg ys) la lb fx fy hx hy
 refine ⟨r,?_,?_,hiff⟩ <;>
 ·have : (Op.equal t (.agg xs) (.agg ys)).run P w = .ok r w := hr
  simp [binOp,this]
theorem guard_agg {op : BinOp} {t : TypeId} {P : Program} (hg : P.eqGuardType P.depth t = false) (x y : Operand) (a b : Array Value) (w : World) : (eqGuard op t x y (.agg a) (.agg b)).run P w = .ok () w := by
 cases op <;> simp [eqGuard,hg]
section
variable {P : Program} {md : Md} {N : Nat} {ops : Array Oper} {rest : List Oper} {Γ : Env} {C : World → Prop} {Q : Exit → Act → World → Prop} {d : Nat} {ty : TypeId} {pos : String} {af : Array Edge} {t u : TypeId} {x y : Operand}
section
variable {m n : Nat}
end
theorem Wl.indexA {e by_ n : TypeId} [ht : TyD P t (.array n e)] [TyS P e 1 by_] {i : Operand} {b : Nat} {k : IntKind} {j : Nat} (hd : Nat.blt d N = true) (hx : ev Γ x = some (.pointer (some ⟨b,0,none⟩))) (hi : ev Γ i = some (.int k (j : Int)))
  (hj : j < n) (h : Wl rest P md ops N ((d,.pointer (some ⟨b,j,none⟩)) :: Γ) C Q) : Wl (⟨some d,.indexAddr t x i,ty,pos,af,none⟩ :: rest) P md ops N Γ C Q :=
 Wl.indexArr hd hx hi ⟨by omega,by omega⟩ (by rw [Int.toNat_natCast,Nat.mul_one,Nat.zero_add];exact h)
theorem Wl.indexAo {e by_ n : TypeId} [ht : TyD P t (.array n e)] [TyS P e 1 by_] {i : Operand} {b o : Nat} {k : IntKind} {j : Nat} (hd : Nat.blt d N = true) (hx : ev Γ x = some (.pointer (some ⟨b,o,none⟩))) (hi : ev Γ i = some (.int k (j : Int)))
  (hj : j < n) (h : Wl rest P md ops N ((d,.pointer (some ⟨b,o + j,none⟩)) :: Γ) C Q) : Wl (⟨some d,.indexAddr t x i,ty,pos,af,none⟩ :: rest) P md ops N Γ C Q :=
 Wl.indexArr hd hx hi ⟨by omega,by omega⟩ (by rw [Int.toNat_natCast,Nat.mul_one];exact h)
end
theorem LOver.whole {l xs : List Value} (h : l.length = xs.length) : LOver l xs xs := by
 induction xs generalizing l with
 | nil => cases l with
  | nil => exact .nil
  | cons _ _ => simp at h
 | cons x r ih => cases l with
  | nil => simp at h
  | cons y s => exact .cons (ih (by simpa using h))
section
variable {P : Program} {md : Md} {N : Nat} {ops : Array Oper} {rest : List Oper} {Γ : Env} {Q : Exit → Act → World → Prop} {d : Nat} {ty : TypeId} {pos : String} {af : Array Edge} {t : TypeId} {x y : Operand}
end
theorem Gt.outCT {P : Program} {N : Nat} {Γ : Env} {w0 : World} {H : List Blk} {fn : Func} {R : Ending → World → Prop} {t u ty n c i bt : Nat} {v : Value} {cs xs : List Value} (hr : fn.results = #[.cell t ty,.tmp u]) (hT : TyA P ty n) (ht : look Γ t = some (.pointer (some ⟨c,i,none⟩))) (hu : look Γ u = some v) (hm : (⟨c,cs,bt⟩ : Blk) ∈ H) (hi' : LSub cs i n xs)
  (h : ∀ w,Hp w0 H w → R (.returned (.tuple #[.agg xs.toArray,v])) w) : Gt N .ret Γ (Hp w0 H) (bodyPost P fn R) := Gt.intro fun a w ha hw => by
 have hi := hi'.out.1
 have hn := hi'.out.2
 refine ⟨ha.defers,_,?_,h w hw⟩
 have hl := run_loadA (P := P) (t := ty) (w := w) (a := ⟨c,i,none⟩) hn (fun j v hj => by
  rw [addLit]
  refine hw.cell hm ?_
  subst hi
  rw [List.getElem?_take] at hj
  split at hj
  ·simpa [List.getElem?_drop] using hj
  ·cases hj)
 rw [results_cell_tmp hr]
 simp [ha.get _ _ ht,ha.get _ _ hu,asAddr,hl]
theorem Gt.outC' {P : Program} {N : Nat} {Γ : Env} {w0 : World} {H : List Blk} {fn : Func} {R : Ending → World → Prop} {t ty n c i bt : Nat} {cs xs : List Value} (hr : fn.results = #[.cell t ty]) (hT : TyA P ty n) (ht : look Γ t = some (.pointer (some ⟨c,i,none⟩))) (hm : (⟨c,cs,bt⟩ : Blk) ∈ H) (hi' : LSub cs i n xs)
  (h : ∀ w,Hp w0 H w → R (.returned (.agg xs.toArray)) w) : Gt N .ret Γ (Hp w0 H) (bodyPost P fn R) := Gt.outC hr ht hm hi' h
end Go.Pt
end
section
namespace Go.Pt
open Go.RowKit
theorem LSet.app {xs r r' : List Value} {i : Nat} {v : Value} (h : LSet r i v r') : LSet (xs ++ r) (xs.length + i) v (xs ++ r') := by
 induction xs with
 | nil => simpa using h
 | cons x s ih => rw [List.length_cons,show s.length + 1 + i = (s.length + i) + 1 by omega];exact .s ih
section
variable {P : Program} {md : Md} {N : Nat} {ops : Array Oper} {rest : List Oper} {Γ : Env} {Q : Exit → Act → World → Prop} {d : Nat} {ty : TypeId} {pos : String} {af : Array Edge} {t : TypeId} {x y : Operand}
theorem Wl.loadHi (i : Nat) {w0 : World} {H : List Blk} {bt : TypeId} [TyC P t] {c j : Nat} {xs r : List Value} {v : Value} (hd : Nat.blt d N = true) (hx : ev Γ x = some (.pointer (some ⟨c,j,none⟩))) (hm : (⟨c,xs ++ r,bt⟩ : Blk) ∈ H) (hl : xs.length = 32) (hj : j = 32 + i) (hv : r[i]? = some v)
  (h : Wl rest P md ops N ((d,v) :: Γ) (Hp w0 H) Q) : Wl (⟨some d,.load t x,ty,pos,af,none⟩ :: rest) P md ops N Γ (Hp w0 H) Q :=
 Wl.loadH hd hx hm (by rw [hj,← hl,List.getElem?_append_right ze,Nat.add_sub_cancel_left];exact hv) h
theorem Wl.storeHi (i : Nat) {w0 : World} {H H' : List Blk} {bt by_ : TypeId} [TyS P t 1 by_] {c j : Nat} {v : Value} {xs r r' : List Value} (hx : ev Γ x = some (.pointer (some ⟨c,j,none⟩))) (hy : ev Γ y = some v) (h1 : v.oneCell' = true) (hs : HSet c (xs ++ r) (xs ++ r') bt H H') (hl : xs.length = 32) (hj : j = 32 + i) (hr : LSet r i v r')
  (h : Wl rest P .seq ops N Γ (Hp w0 H') Q) : Wl (⟨none,.store t x y,ty,pos,af,none⟩ :: rest) P .seq ops N Γ (Hp w0 H) Q := Wl.store hx hy h1 hs (by rw [hj,← hl];exact hr.app) h
end
end Go.Pt
namespace Go.Proofs.YtabbklpalbikdaaGreatDoor
open Go.RowKit Go.Pt
def HH (w : World) (h c : Nat) (vM : Value) (xs : List Value) (pc : Int) : Prop := xs.length = 32 ∧ w.heap[h]? = some (.cells (xs ++ [.int .u32 pc,.pointer (some ⟨c,0,none⟩),vM]).toArray 133 (0,0))
theorem HH.lt {w : World} {h c : Nat} {vM : Value} {xs : List Value} {pc : Int} (k : HH w h c vM xs pc) : h < w.heap.size := lt_of_block k.2
theorem HH.upd {w w' : World} {h c : Nat} {vM : Value} {xs : List Value} {pc : Int} {S : Nat → Prop} (k : HH w h c vM xs pc) (u : Upd S w w') (hs : ¬ S h) : HH w' h c vM xs pc := ⟨k.1,u.heap k.2 hs⟩
end Go.Proofs.YtabbklpalbikdaaGreatDoor
end
section
namespace Go.Proofs.YtabbklpalbikdaaGreatDoor
open Go.RowKit Go.Pt
theorem of_any (op o rd r1 r2 im : Int) (w : World) :
  Calls Tryz.prog 161 #[.int .i64 op,.agg #[.int .i64 o,.int .i64 rd,.int .i64 r1,.int .i64 r2,.int .u32 im]] w fun e w' => e = .returned (if op = 0 then .agg #[.int .i64 0,.int .i64 0,.int .i64 0,.int .i64 0,.int .u32 0] else .agg #[.int .i64 op,.int .i64 rd,.int .i64 r1,.int .i64 r2,.int .u32 im]) ∧ Hp w [] w' := by
 refine enter (args := [_,_]) (Γ := [(0,_),(1,_)]) Tryz.func161 Tryz.ntmps161 rfl (of_decide_eq_true rfl) (.cons rfl (.cons rfl .nil)) ?_
 repeat' first | (apply Gt.outC';exact rfl;infer_instance;exact rfl;exact kg;exact kg;intro w' hp) | refine Wl.move rfl rfl ?_ | refine Wl.fieldAddr0 rfl rfl ?_ | refine Wl.eql rfl rfl rfl ?_ | (apply Wl.store;exact rfl;exact rfl;exact rfl;exact kg;exact ky) | (apply Wl.storeA;exact rfl;exact rfl;exact rfl;exact rfl;exact kg;exact kh) | (apply Wl.loadAH;exact rfl;exact rfl;exact kg;exact kg) | (apply Wl.buildS;exact rfl;exact kv;exact kf) | (apply Wl.boxA;exact rfl;exact rfl;intro c hc ho) | (apply Wl.alloc;exact rfl;intro c hc ho) | apply Wl.nil | apply St.seq | apply St.region | apply St.ret | apply St.skip | apply Gt.next | apply Gt.thenRet | (apply Wl.splitP;exact rfl;exact rfl;all_goals (intros;try (exfalso;omega))) | (apply Wl.splitB;exact rfl;exact rfl;all_goals intros) | (apply St.condP;exact rfl;all_goals (intros;try (exfalso;omega))) | (apply St.condB;exact rfl;all_goals intros)
 ·rw [if_pos qj]
  exact ⟨rfl,hp.drop zy⟩
 ·rw [if_neg qj]
  exact ⟨rfl,hp.drop zy⟩
theorem own_at {w : World} {H : List Blk} {b t : Nat} {cs : List Value} (h : Own w H) (hm : (⟨b,cs,t⟩ : Blk) ∈ H) : w.heap[b]? = some (.cells cs.toArray t (0,0)) := h.at hm
theorem agg_of {w : World} {c : Nat} {cs : List Value} {t : TypeId} (h : w.heap[c]? = some (.cells cs.toArray t (0,0))) : ∀ j v,cs[j]? = some v → w.cell? ((⟨c,0,none⟩ : Addr).add j) = some v := by
 intro j v hj
 rw [addLit,Nat.zero_add]
 exact cell_of h hj
end Go.Proofs.YtabbklpalbikdaaGreatDoor
end
section
namespace Go.Pt
open Go.RowKit
end Go.Pt
namespace Go.Proofs.YtabbklpalbikdaaGreatDoor
open Go.RowKit Go.Pt
def xz : List Value := [.int .u32 0,.int .u32 0,.int .u32 0,.int .u32 0,.int .u32 0,.int .u32 0,.int .u32 0,.int .u32 0,.int .u32 0,.int .u32 0,.int .u32 0,.int .u32 0,.int .u32 0,.int .u32 0,.int .u32 0,.int .u32 0,.int .u32 0,.int .u32 0,.int .u32 0,.int .u32 0,.int .u32 0,.int .u32 0,.int .u32 0,.int .u32 0,.int .u32 0,.int .u32 0,.int .u32 0,.int .u32 0,.int .u32 0,.int .u32 0,.int .u32 0,.int .u32 0]
def fz (n : Int) : List Value := .int .i64 3 :: .int .u32 0 :: .int .u32 0 :: .int .u32 0 :: .int .u32 0 :: .int .u32 0 :: .int .u32 0 :: .int .u32 0 :: .int .u32 0 :: [.int .u8 0,.int .u8 0,.int .u8 0,.int .u8 0,.int .u8 0,.int .u8 0,.int .u8 0,.int .u8 0,.int .u8 0,.int .u8 0,.int .u8 0,.int .u8 0,.int .u8 0,.int .u8 0,.int .u8 0,.int .u8 0,
 .int .u32 0,.int .u32 0,.int .u32 0,.int .u32 0,.int .u32 0,.int .u32 0,.int .u32 0,.int .u32 0,.int .u32 0,.int .u32 0,.int .u32 0,.int .u32 0,.int .u32 0,.int .u32 0,.int .u32 0,.int .u32 0,.int .u64 n,.int .u64 n]
theorem FF.two {w : World} {c : Nat} {md tv : Int} (h : FF w c md tv) : w.cell? ⟨c,0,none⟩ = some (.int .i64 md) := by
 obtain ⟨st,mie,mip,sc,ep,ca,tl,cs,hk,hc⟩ := h
 exact cell_of hc rfl
theorem HH.at1 {w : World} {h c : Nat} {vM : Value} {xs : List Value} {pc : Int} (k : HH w h c vM xs pc) : w.cell? ⟨h,32,none⟩ = some (.int .u32 pc) ∧ w.cell? ⟨h,33,none⟩ = some (.pointer (some ⟨c,0,none⟩)) ∧ w.cell? ⟨h,34,none⟩ = some vM := by
 obtain ⟨hl,hh⟩ := k
 refine ⟨cell_of hh ?_,cell_of hh ?_,cell_of hh ?_⟩
 ·rw [show (32 : Nat) = xs.length + 0 by omega,List.getElem?_append_right ze,Nat.add_sub_cancel_left];rfl
 ·rw [show (33 : Nat) = xs.length + 1 by omega,List.getElem?_append_right ze,Nat.add_sub_cancel_left];rfl
 ·rw [show (34 : Nat) = xs.length + 2 by omega,List.getElem?_append_right ze,Nat.add_sub_cancel_left];rfl
end Go.Proofs.YtabbklpalbikdaaGreatDoor
end
section
namespace Go.Pt
open Go.RowKit
section
variable {P : Program} {md : Md} {N : Nat} {ops : Array Oper} {rest : List Oper} {Γ : Env} {C : World → Prop} {Q : Exit → Act → World → Prop} {d : Nat} {ty : TypeId} {pos : String} {af : Array Edge} {t u : TypeId} {x y : Operand}
theorem Wl.fieldV {s i off ft : Nat} [hf : Fld P s i off ft] [TyC P ft] {cs : List Value} {v : Value} (hd : Nat.blt d N = true) (hx : ev Γ x = some (.agg cs.toArray)) (hv : cs[off]? = some v) (h : Wl rest P md ops N ((d,v) :: Γ) C Q) :
  Wl (⟨some d,.field s x i,ty,pos,af,none⟩ :: rest) P md ops N Γ C Q :=
 Wl.val hd (fun a w ha _ => by
  have h := hf.out
  unfold fieldB at h
  split at h <;> try cases h
  rename_i fs hfs
  cases e : fs[i]? with
  | none => rw [e] at h;cases h
  | some f =>
   rw [e] at h;simp at h
   obtain ⟨h1,h2,h3⟩ := h
   subst h1 h2
   have hv' : cs.toArray[f.offset]? = some v := by simpa using hv
   simp [execOp,ha.ev hx,Instr.field,run_underlying hfs,e,part,run_aggC (P := P) (t := f.type),asAgg,hv]) h
theorem Wl.eqlG {xs ys : Array Value} {la lb : List Lit} (hd : Nat.blt d N = true) (hx : ev Γ x = some (.agg xs)) (hy : ev Γ y = some (.agg ys)) (hk : P.keyTypeAt 8 t = true) (hg0 : P.eqGuardType P.depth t = false) (fx : (Value.agg xs).formed P t = true) (fy : (Value.agg ys).formed P t = true)
  (hlx : P.keyLits 8 t xs.toList = some la) (hly : P.keyLits 8 t ys.toList = some lb) (b : Bool) (hb : b = true ↔ la = lb) (h : Wl rest P md ops N ((d,.bool b) :: Γ) C Q) : Wl (⟨some d,.binOp .eql t x y u,ty,pos,af,none⟩ :: rest) P md ops N Γ C Q :=
 Wl.val hd (fun a w ha _ => by
  obtain ⟨r,h1,_,h3⟩ := run_neq_agg (P := P) w (t := t) hk fx fy hlx hly
  have : r = b := by rw [Bool.eq_iff_iff,h3,hb]
  subst this
  simp only [execOp,ha.ev hx,ha.ev hy,pure_bind,Sem.run_bind,guard_agg (P := P) hg0,Result.andThen_ok,h1];rfl) h
end
end Go.Pt
namespace Go.Proofs.YtabbklpalbikdaaGreatDoor
open Go.RowKit Go.Pt
set_option maxHeartbeats 4000000 in
theorem hnew (a : Option Addr) (w : World) : Calls Tryz.prog 90 #[.pointer a] w fun e w' => ∃ h cf,e = .returned (.pointer (some ⟨h,0,none⟩)) ∧ Hp w [⟨h,xz ++ [Value.int .u32 0,Value.pointer (some ⟨cf,0,none⟩),Value.pointer a],133⟩,⟨cf,fz 0,145⟩] w' ∧ w.heap.size ≤ h ∧ w.heap.size ≤ cf ∧ h ≠ cf := by
 refine enter (args := [_]) (Γ := [(0,_)]) Tryz.func90 Tryz.ntmps90 rfl (of_decide_eq_true rfl) (.cons rfl .nil) ?_
 repeat' first | (apply Gt.inl1;exact rfl;exact rfl) | (apply Wl.inline;exact rfl;exact kg;exact rfl;exact rfl) | refine Wl.move rfl rfl ?_ | refine Wl.assign rfl rfl ?_ | (apply Wl.buildS;exact rfl;exact kv;exact kf) | (apply Wl.boxA;exact rfl;exact rfl;intro c hc ho) | apply Wl.nil | apply St.seq | apply St.region | apply St.ret | apply Gt.next | (apply Gt.out1;exact rfl;exact rfl;intro w' hp) | (apply Wl.splitP;exact rfl;exact rfl;all_goals (intros;try (exfalso;omega))) | (apply Wl.splitB;exact rfl;exact rfl;all_goals intros) | (apply St.condP;exact rfl;all_goals (intros;try (exfalso;omega))) | (apply St.condB;exact rfl;all_goals intros)
 rename_i cf hcf hof
 exact ⟨_,_,rfl,hp,hc,hcf,fun e => ho.1 e.symm⟩
theorem newHp {w wq w1 : World} {S : Nat → Prop} (h : Upd (fun k => w.heap.size ≤ k) w wq) (u : Upd S wq w1) (hs : ∀ k,S k → w.heap.size ≤ k) : Hp w [] w1 :=
 ⟨(h.comp u (T := fun k => w.heap.size ≤ k) fun k _ e => e.elim id (hs k)).mono fun k hk e => by omega,trivial,trivial⟩
end Go.Proofs.YtabbklpalbikdaaGreatDoor
end
section
namespace Go.Proofs.YtabbklpalbikdaaGreatDoor
open Go.RowKit Go.Pt
def tabL : List Int := [0,1,28,2,29,14,24,3,30,22,20,15,25,17,4,8,31,27,13,23,21,19,16,7,26,12,18,6,11,5,10,9]
def tabOk (w : World) : Prop := ∀ i : Nat,i < 32 → ∃ z : Int,tabL[i]? = some z ∧ (0 ≤ z ∧ z ≤ 31) ∧ w.cell? ⟨0,i,none⟩ = some (.int .u8 z)
theorem tabOk.upd {w w' : World} {S : Nat → Prop} (h : tabOk w) (u : Upd S w w') (hs : ¬ S 0) : tabOk w' := fun i hi => by
 obtain ⟨z,h1,h2,h3⟩ := h i hi
 exact ⟨z,h1,h2,u.cell h3 hs⟩
theorem tabOk.lt {w : World} (h : tabOk w) : 0 < w.heap.size := by
 obtain ⟨z,_,_,h3⟩ := h 0 zi
 exact cell_old h3
theorem idx27 (x : Int) : 0 ≤ (IntKind.u32.wrap x).fdiv (2 ^ min (Int.toNat 27) IntKind.u32.bits) ∧ (IntKind.u32.wrap x).fdiv (2 ^ min (Int.toNat 27) IntKind.u32.bits) < 32 := by
 have h := wrap_within .u32 x
 have h' : 0 ≤ IntKind.u32.wrap x ∧ IntKind.u32.wrap x ≤ 4294967295 := h
 rw [show ((2 : Int) ^ min (Int.toNat 27) IntKind.u32.bits) = 134217728 from rfl,Int.fdiv_eq_ediv_of_nonneg _ zi]
 omega
instance entTz : Ent Tryz.prog 128 := ent_of Tryz.func128 kj kj
end Go.Proofs.YtabbklpalbikdaaGreatDoor
end
section
namespace Go.Proofs.YtabbklpalbikdaaGreatDoor
open Go.RowKit Go.Pt
def entG (b a : Int) : List Value := [.int .i64 (IntKind.i64.wrap (bits .and .u8 (b.fdiv (2 ^ min (Int.toNat 3) IntKind.u8.bits)) 3)),.int .i64 (IntKind.i64.wrap (bits .and .u8 b 7)),.int .u32 a]
def entsG (g ad : Nat → Int) (n : Nat) : List Value := ((List.range n).map fun i => entG (g i) (ad i)).flatten
theorem entsG_succ (g ad : Nat → Int) (n : Nat) : entsG g ad (n + 1) = entsG g ad n ++ entG (g n) (ad n) := by
 unfold entsG
 rw [List.range_succ,List.map_append,List.flatten_append]
 simp
theorem entsG_len (g ad : Nat → Int) (n : Nat) : (entsG g ad n).length = n * 3 := by
 induction n with
 | zero => rfl
 | succ n ih => rw [entsG_succ,List.length_append,ih,Nat.succ_mul];rfl
theorem entsG_at (g ad : Nat → Int) {n i j : Nat} (hi : i < n) (hj : j < 3) : (entsG g ad n)[i * 3 + j]? = (entG (g i) (ad i))[j]? := by
 induction n with
 | zero => omega
 | succ n ih =>
  rw [entsG_succ]
  by_cases e : i = n
  ·subst e
   rw [List.getElem?_append_right (by rw [entsG_len];omega),entsG_len]
   congr 1;omega
  ·rw [List.getElem?_append_left (by rw [entsG_len];omega)]
   exact ih ze
theorem pmpOf (b a : Int) (w : World) : Calls Tryz.prog 191 #[.int .u8 b,.int .u32 a] w fun e w' => e = .returned (.agg #[.int .i64 (IntKind.i64.wrap (bits .and .u8 (b.fdiv (2 ^ min (Int.toNat 3) IntKind.u8.bits)) 3)),.int .i64 (IntKind.i64.wrap (bits .and .u8 b 7)),.int .u32 a]) ∧ Hp w [] w' := by
 refine enter (args := [_,_]) (Γ := [(0,_),(1,_)]) Tryz.func191 Tryz.ntmps191 rfl (of_decide_eq_true rfl) (.cons rfl (.cons rfl .nil)) ?_
 repeat' first | (apply Gt.outC';exact rfl;infer_instance;exact rfl;exact kg;exact kg;intro w' hp) | refine Wl.move rfl rfl ?_ | refine Wl.and rfl rfl rfl ?_ | (refine Wl.shr rfl rfl rfl ?_ ?_;omega) | refine Wl.convI rfl rfl ?_ | (apply Wl.storeA;exact rfl;exact rfl;exact rfl;exact rfl;exact kg;exact kh) | (apply Wl.buildS;exact rfl;exact kv;exact kf) | (apply Wl.alloc;exact rfl;intro c hc ho) | apply Wl.nil | apply St.seq | apply St.region | apply St.ret | apply Gt.next
 exact ⟨rfl,hp.drop zy⟩
set_option maxHeartbeats 2000000 in
theorem entries_any (b : Nat) (g ad : Nat → Int) (w : World) (hb : b < w.heap.size) (hcfg : ∀ j : Nat,j < 16 → w.cell? ⟨b,9 + j,none⟩ = some (.int .u8 (g j))) (haddr : ∀ j : Nat,j < 16 → w.cell? ⟨b,25 + j,none⟩ = some (.int .u32 (ad j))) :
  Calls Tryz.prog 148 #[.pointer (some ⟨b,0,none⟩)] w fun e w' => ∃ v,e = .returned v ∧ w'.ownsRow w.heap.size 160 3 v 16 (entsG g ad 16) ∧ Upd (fun k => w.heap.size ≤ k) w w' := by
 refine enter (args := [_]) (Γ := [(0,_)]) Tryz.func148 Tryz.ntmps148 rfl (of_decide_eq_true rfl) (.cons rfl .nil) ?_
 repeat' first | refine Wl.move rfl rfl ?_ | refine Wl.assign rfl rfl ?_ | refine Wl.eqlPN rfl rfl rfl ?_ | apply Wl.nil | apply St.seq | apply St.block | apply St.region | (apply St.condF;exact rfl;exact ka) | apply St.skip | apply Gt.next
 refine St.loop (σ := Nat × World × Value) (fun τ => τ.1 ≤ 16 ∧ Upd (fun k => w.heap.size ≤ k) w τ.2.1 ∧ τ.2.1.ownsRow w.heap.size 160 3 τ.2.2 τ.1 (entsG g ad τ.1))
  (fun τ => [(7,.int .i64 τ.1),(3,τ.2.2),(0,.pointer (some ⟨b,0,none⟩))]) (fun τ => Hp τ.2.1 []) (fun τ => 16 - τ.1) (0,w,.slice none 0 0) ⟨by simp,Upd.refl _ _,World.ownsRow_nil _ _ _ _⟩ kx (fun _ h => h) ?_
 rintro ⟨i,w0,v⟩ ⟨hi,hu,hol⟩
 simp only at hi hu hol ⊢
 by_cases hlt : i < 16
 ·have hc0 : w0.cell? ⟨b,9 + i,none⟩ = some (.int .u8 (g i)) := hu.cell (hcfg i hlt) q5
  have ha0 : w0.cell? ⟨b,25 + i,none⟩ = some (.int .u32 (ad i)) := hu.cell (haddr i hlt) q5
  repeat' first | refine Wl.move rfl rfl ?_ | refine Wl.assign rfl rfl ?_ | refine Wl.lss rfl rfl rfl ?_ | apply Wl.nil | apply St.seq | apply St.block | apply St.region | apply St.skip | apply Gt.next | (apply St.condP;exact rfl;all_goals (intros;try (exfalso;omega)))
  have hc1 : w.cell? ⟨b,9 + i,none⟩ = some (.int .u8 (g i)) := hcfg i hlt
  have ha1 : w.cell? ⟨b,25 + i,none⟩ = some (.int .u32 (ad i)) := haddr i hlt
  refine St.tree (Hp w []) mixed (fun _ h => ⟨Hp.drew h,Hp.under (Hp.drew h) hu⟩) ?_
  refine Mt.pm 0 ?_
  refine Mt.pm 1 ?_
  refine Mt.pm 2 ?_
  refine Mt.pn 3 ?_
  refine Mt.pz 4 ?_
  refine Mt.pu 5 ?_
  repeat' first | (refine Wl.indexAo rfl rfl rfl ?_ ?_;omega) | apply Wl.nilB
  refine Mt.pu 6 ?_
  repeat' first | (apply Wl.loadO;exact rfl;exact rfl;(assumption);exact qz) | apply Wl.nilB
  refine Mt.pm 7 ?_
  refine Mt.pm 8 ?_
  refine Mt.pn 9 ?_
  refine Mt.pz 10 ?_
  refine Mt.pu 11 ?_
  repeat' first | (refine Wl.indexAo rfl rfl rfl ?_ ?_;omega) | apply Wl.nilB
  refine Mt.pu 12 ?_
  repeat' first | (apply Wl.loadO;exact rfl;exact rfl;(assumption);exact qz) | apply Wl.nilB
  refine Mt.eff1 (i := 13) ki zg ?_
  apply Wl.callQ
  exact rfl
  (focus repeat constructor)
  ·intro wq hq
   exact hq.q (pmpOf (g i) (ad i) wq)
  repeat' first | apply Wl.nil
  refine Mt.backE (fun u h => Hp.under h hu) ?_
  refine Mt.eff1 (i := 14) ki zg ?_
  apply Wl.lit
  ·exact rfl
  ·(repeat (first | exact Parts.nil | apply Parts.cons rfl))
  ·exact rfl
  ·exact rfl
  ·(repeat (first | apply CatP.nil | (apply CatP.one;exact rfl;exact rfl) | (apply CatP.agg;exact rfl) | apply LApp.nil | apply LApp.cons))
  intro d hd hod
  repeat' first | apply Wl.nil
  refine Mt.backE (fun u h => Hp.under (Hp.pop h hd) hu) ?_
  refine Mt.eff1 (i := 15) ki zg ?_
  apply Wl.appendT
  ·exact rfl
  ·exact rfl
  ·exact rfl
  ·exact hd
  ·exact rfl
  ·exact hol
  ·exact fun k hk => trivial
  ·exact rfl
  ·exact rfl
  ·decide
  ·unfold maxLen;omega
  ·omega
  ·exact hu.size
  intro v' w1 ho1 u1 _ hoff1
  have hu1 : Upd (fun k => w.heap.size ≤ k) w w1 := hu.comp u1 fun k hk hs => hs.elim id fun hs => hs.elim (fun e => (hol.lt k e).1) fun y => (y trivial).elim
  repeat' first | apply Wl.nil
  refine Mt.backE (fun u h => Hp.under h hu1) ?_
  refine Mt.pu 16 ?_
  refine Wl.assign rfl rfl (Wl.nilB ?_)
  refine Mt.toGt ki ?_
  repeat' first | refine Wl.move rfl rfl ?_ | (refine Wl.addI rfl rfl rfl ?_ ?_;constructor <;> omega) | apply Wl.nil | apply St.region | apply Gt.next | apply Gt.inNormal
  apply Gt.round (i + 1,w1,v')
  rotate_left
  ·simp only;omega
  ·repeat constructor
  ·exact fun _ h => h
  ·exact ⟨by simp only;omega,hu1,by simp only;rw [entsG_succ];exact ho1⟩
 ·have hie : i = 16 := by omega
  subst hie
  repeat' first | refine Wl.move rfl rfl ?_ | refine Wl.assign rfl rfl ?_ | refine Wl.lss rfl rfl rfl ?_ | apply Wl.nil | apply St.seq | apply St.region | (apply St.condF;exact rfl;exact ka) | apply St.ret | apply St.exit | apply Gt.next | apply Gt.thenExit | apply Gt.inExit | (apply Gt.out1;exact rfl;exact rfl;intro w' hp)
  exact ⟨v,rfl,ownsRow_upd hol hp.upd (fun k _ y => y trivial),hu.comp hp.upd fun k _ hs => hs.elim id fun y => (y trivial).elim⟩
def intAt (cs : List Value) (i : Nat) : Int := match cs[i]? with
 | some (.int _ z) => z
 | _ => 0
theorem Kd.at {kd : Nat → IntKind} {n i : Nat} {cs : List Value} (h : Kd kd n cs) (hi : i < n) : cs[i]? = some (.int (kd i) (intAt cs i)) := by
 obtain ⟨x,hx⟩ := h.2 i hi
 unfold intAt
 rw [hx]
def fileC (md st mie mip tv sc ep ca tl : Int) (cs : List Value) : List Value := .int .i64 md :: .int .u32 st :: .int .u32 mie :: .int .u32 mip :: .int .u32 tv :: .int .u32 sc :: .int .u32 ep :: .int .u32 ca :: .int .u32 tl :: cs
theorem cfg_cells {w : World} {c : Nat} {md st mie mip tv sc ep ca tl : Int} {cs : List Value} (hk : Kd fkd 34 cs) (h : w.heap[c]? = some (.cells (fileC md st mie mip tv sc ep ca tl cs).toArray 145 (0,0))) :
  (∀ j : Nat,j < 16 → w.cell? ⟨c,9 + j,none⟩ = some (.int .u8 (intAt cs j))) ∧ ∀ j : Nat,j < 16 → w.cell? ⟨c,25 + j,none⟩ = some (.int .u32 (intAt cs (16 + j))) := by
 refine ⟨fun j hj => cell_of h ?_,fun j hj => cell_of h ?_⟩
 ·have := Kd.at hk (i := j) ze
  rw [fkd8 hj] at this
  rw [show 9 + j = j + 9 by omega]
  exact this
 ·have := Kd.at hk (i := 16 + j) ze
  rw [fkd32 ze ze] at this
  rw [show 25 + j = (16 + j) + 9 by omega]
  exact this
end Go.Proofs.YtabbklpalbikdaaGreatDoor
end
section
namespace Go.Proofs.YtabbklpalbikdaaGreatDoor
open Go.RowKit Go.Pt
theorem wr32 (x : Int) : 0 ≤ IntKind.u32.wrap x ∧ IntKind.u32.wrap x < 4294967296 := by
 have h : 0 ≤ IntKind.u32.wrap x ∧ IntKind.u32.wrap x ≤ 4294967295 := wrap_within .u32 x
 omega
theorem br32 (op : BinOp) (a b : Int) : 0 ≤ bits op .u32 a b ∧ bits op .u32 a b < 4294967296 := by
 have h : 0 ≤ bits op .u32 a b ∧ bits op .u32 a b ≤ 4294967295 := bits_within op .u32 a b
 omega
theorem b64 (op : BinOp) (a b : Int) : -9223372036854775808 ≤ bits op .u32 a b ∧ bits op .u32 a b ≤ 9223372036854775807 := by
 have := br32 op a b
 omega
theorem fd32 {a : Int} {k : Nat} (h : 0 ≤ a ∧ a < 4294967296) : 0 ≤ a.fdiv (2 ^ k) ∧ a.fdiv (2 ^ k) < 4294967296 := by
 have hp : (0 : Int) < 2 ^ k := Int.pow_pos zi
 rw [Int.fdiv_eq_ediv_of_nonneg _ (Int.le_of_lt hp)]
 exact ⟨Int.ediv_nonneg h.1 (Int.le_of_lt hp),Int.lt_of_le_of_lt (Int.ediv_le_self _ h.1) h.2⟩
theorem tm32 {a b : Int} (h : 0 ≤ a ∧ a < 4294967296) : 0 ≤ a.tmod b ∧ a.tmod b < 4294967296 := by
 refine ⟨Int.tmod_nonneg _ h.1,?_⟩
 obtain ⟨n,rfl⟩ := Int.eq_ofNat_of_zero_le h.1
 have h2 : ((n : Int).tmod b) ≤ n := by
  rcases Int.natAbs_eq b with e | e <;> rw [e]
  ·rw [← Int.ofNat_tmod];exact Int.ofNat_le.2 (Nat.mod_le _ _)
  ·rw [Int.tmod_neg,← Int.ofNat_tmod];exact Int.ofNat_le.2 (Nat.mod_le _ _)
 omega
theorem andK (a : Int) (k : Nat) (hk : k < 4294967296) : 0 ≤ bits .and .u32 a (k : Int) ∧ bits .and .u32 a (k : Int) ≤ k := by
 rw [bits_and32]
 refine ⟨by omega,?_⟩
 rw [BitVec.toNat_and]
 have : (BitVec.ofInt 32 (k : Int)).toNat = k := by rw [BitVec.ofInt_natCast,BitVec.toNat_ofNat];exact Nat.mod_eq_of_lt hk
 rw [this]
 exact Int.ofNat_le.2 Nat.and_le_right
theorem and31 (a : Int) : 0 ≤ bits .and .u32 a 31 ∧ bits .and .u32 a 31 < 32 := by
 have := andK a 31 zi
 simp only [Int.cast_ofNat_Int] at this
 omega
theorem and7 (a : Int) : 0 ≤ bits .and .u32 a 7 := (br32 _ _ _).1
theorem i32ne {b : Int} (h : 0 ≤ b ∧ b < 4294967296) (h0 : ¬ b = 0) : IntKind.i64.wrap (IntKind.i32.wrap b) ≠ 0 := by
 have e : IntKind.i32.wrap b = if 2147483648 ≤ b % 4294967296 then b % 4294967296 - 4294967296 else b % 4294967296 := by simp [IntKind.wrap,IntKind.bits,IntKind.signed]
 rw [e]
 split
 ·rw [IntWalk.i64_in _ qy];omega
 ·rw [IntWalk.i64_in _ qy];omega
theorem form_any (op : Int) (w : World) : Calls Tryz.prog 149 #[.int .i64 op] w fun e w' => (∃ v : Int,e = .returned (.int .i64 v)) ∧ Hp w [] w' := by
 refine enter (args := [_]) (Γ := [(0,_)]) Tryz.func149 Tryz.ntmps149 rfl (of_decide_eq_true rfl) (.cons rfl .nil) ?_
 repeat' first | refine Wl.move rfl rfl ?_ | refine Wl.assign rfl rfl ?_ | (apply Wl.on;exact rfl;exact rfl;exact ka) | (apply Wl.off;exact rfl;exact rfl;exact rfl;exact kq) | refine Wl.offU rfl rfl rfl ?_ | (apply Wl.pickT;exact rfl;exact rfl;exact ka;exact rfl) | (apply Wl.pickF;exact rfl;exact rfl;exact ka;exact rfl) | refine Wl.eql rfl rfl rfl ?_ | refine Wl.leq rfl rfl rfl ?_ | refine Wl.geq rfl rfl rfl ?_ | apply Wl.nil | apply St.seq | apply St.block | apply St.region | (apply St.condT;exact rfl;exact ka) | (apply St.condF;exact rfl;exact ka) | apply St.ret | apply St.skip | apply Gt.next | apply Gt.thenRet | apply Gt.inNormal | apply Gt.inRet | (apply Gt.out1;exact rfl;exact rfl;intro w' hp) | (apply Wl.splitP;exact rfl;exact rfl;all_goals (intros;try (exfalso;omega))) | (apply St.condP;exact rfl;all_goals (intros;try (exfalso;omega)))
 all_goals exact ⟨⟨_,rfl⟩,hp⟩
theorem goes_any (op a b : Int) (w : World) : Calls Tryz.prog 151 #[.int .i64 op,.int .u32 a,.int .u32 b] w fun e w' => (∃ x y : Bool,e = .returned (.tuple #[.bool x,.bool y])) ∧ Hp w [] w' := by
 refine enter (args := [_,_,_]) (Γ := [(0,_),(1,_),(2,_)]) Tryz.func151 Tryz.ntmps151 rfl (of_decide_eq_true rfl) (.cons rfl (.cons rfl (.cons rfl .nil))) ?_
 repeat' first | refine Wl.move rfl rfl ?_ | refine Wl.assign rfl rfl ?_ | refine Wl.eql rfl rfl rfl ?_ | refine Wl.neq rfl rfl rfl ?_ | refine Wl.lss rfl rfl rfl ?_ | refine Wl.geq rfl rfl rfl ?_ | refine Wl.convI rfl rfl ?_ | apply Wl.nil | apply St.seq | apply St.block | apply St.region | apply St.ret | apply St.skip | apply Gt.next | apply Gt.thenRet | apply Gt.inNormal | apply Gt.inRet | (apply Gt.out2;exact rfl;exact rfl;exact rfl;intro w' hp) | (apply St.condP;exact rfl;all_goals (intros;try (exfalso;omega)))
 all_goals exact ⟨⟨_,_,rfl⟩,hp⟩
theorem truth_any (b : Bool) (w : World) : Calls Tryz.prog 193 #[.bool b] w fun e w' => (∃ v : Int,e = .returned (.int .u32 v) ∧ 0 ≤ v ∧ v < 4294967296) ∧ Hp w [] w' := by
 refine enter (args := [_]) (Γ := [(0,_)]) Tryz.func193 Tryz.ntmps193 rfl (of_decide_eq_true rfl) (.cons rfl .nil) ?_
 repeat' first | refine Wl.move rfl rfl ?_ | refine Wl.assign rfl rfl ?_ | apply Wl.nil | apply St.seq | apply St.region | apply St.ret | apply St.skip | apply Gt.next | apply Gt.thenRet | (apply Gt.out1;exact rfl;exact rfl;intro w' hp) | (apply St.condB;exact rfl;all_goals intros)
 all_goals exact ⟨⟨_,rfl,by decide⟩,hp⟩
set_option maxHeartbeats 4000000 in
theorem muls_any (op a b : Int) (w : World) (ha : 0 ≤ a ∧ a < 4294967296) (hb : 0 ≤ b ∧ b < 4294967296) : Calls Tryz.prog 194 #[.int .i64 op,.int .u32 a,.int .u32 b] w fun e w' => (∃ v : Int,∃ y : Bool,e = .returned (.tuple #[.int .u32 v,.bool y]) ∧ 0 ≤ v ∧ v < 4294967296) ∧ Hp w [] w' := by
 refine enter (args := [_,_,_]) (Γ := [(0,_),(1,_),(2,_)]) Tryz.func194 Tryz.ntmps194 rfl (of_decide_eq_true rfl) (.cons rfl (.cons rfl (.cons rfl .nil))) ?_
 repeat' first | (apply Wl.quo;exact rfl;exact rfl;exact rfl;exact j3) | (apply Wl.rem;exact rfl;exact rfl;exact rfl;exact j3) | refine Wl.move rfl rfl ?_ | refine Wl.assign rfl rfl ?_ | refine Wl.eql rfl rfl rfl ?_ | refine Wl.mul rfl rfl rfl ?_ | (refine Wl.shr rfl rfl rfl ?_ ?_;omega) | (refine Wl.convI64 rfl rfl ?_ ?_;constructor <;> omega) | (refine Wl.convU64 rfl rfl ?_ ?_;constructor <;> omega) | refine Wl.convI rfl rfl ?_ | apply Wl.nil | apply St.seq | apply St.block | apply St.region | apply St.ret | apply St.skip | apply Gt.next | apply Gt.thenRet | apply Gt.inNormal | apply Gt.inRet | (apply Gt.out2;exact rfl;exact rfl;exact rfl;intro w' hp) | (apply St.condP;exact rfl;all_goals (intros;try (exfalso;omega)))
 all_goals exact ⟨⟨_,_,rfl,by (first | assumption | exact wr32 _ | exact br32 _ _ _ | exact and31 _ | (constructor <;> omega) | (apply fd32;first | assumption | exact wr32 _ | exact br32 _ _ _) | (apply tm32;first | assumption | exact wr32 _ | exact br32 _ _ _))⟩,hp⟩
set_option maxHeartbeats 4000000 in
theorem reckon_any (op a b : Int) (w : World) (ha : 0 ≤ a ∧ a < 4294967296) (hb : 0 ≤ b ∧ b < 4294967296) : Calls Tryz.prog 154 #[.int .i64 op,.int .u32 a,.int .u32 b] w fun e w' => (∃ v : Int,∃ y : Bool,e = .returned (.tuple #[.int .u32 v,.bool y]) ∧ 0 ≤ v ∧ v < 4294967296) ∧ Hp w [] w' := by
 refine enter (args := [_,_,_]) (Γ := [(0,_),(1,_),(2,_)]) Tryz.func154 Tryz.ntmps154 rfl (of_decide_eq_true rfl) (.cons rfl (.cons rfl (.cons rfl .nil))) ?_
 repeat' first | (apply Wl.shl;exact rfl;exact rfl;exact rfl;exact bits_lo_u32 _ _ _) | (apply Wl.shr;exact rfl;exact rfl;exact rfl;exact bits_lo_u32 _ _ _) | (apply Wl.callC;exact rfl;exact kg;(intro wq hq;refine (truth_any _ wq).mono ?_;rintro e wr ⟨⟨v,rfl,hv⟩,hr⟩;refine ⟨_,_,rfl,hq.keep hr,?_⟩;clear hr hq wr wq)) | (apply Wl.callC;exact rfl;exact kg;(intro wq hq;refine (muls_any op a b wq ha hb).mono ?_;rintro e wr ⟨⟨v,y,rfl,hv⟩,hr⟩;refine ⟨_,_,rfl,hq.keep hr,?_⟩;clear hr hq wr wq)) | refine Wl.move rfl rfl ?_ | refine Wl.assign rfl rfl ?_ | refine Wl.extract rfl rfl rfl ?_ | refine Wl.eql rfl rfl rfl ?_ | refine Wl.lss rfl rfl rfl ?_ | refine Wl.add rfl rfl rfl ?_ | refine Wl.sub' rfl rfl rfl ?_ | refine Wl.and rfl rfl rfl ?_ | refine Wl.or rfl rfl rfl ?_ | refine Wl.xor rfl rfl rfl ?_ | refine Wl.convI rfl rfl ?_ | apply Wl.nil | apply St.seq | apply St.block | apply St.region | (apply St.condT;exact rfl;exact ka) | apply St.ret | apply St.skip | apply Gt.next | apply Gt.thenRet | apply Gt.inNormal | apply Gt.inRet | (apply Gt.out2;exact rfl;exact rfl;exact rfl;intro w' hp) | (apply St.condP;exact rfl;all_goals (intros;try (exfalso;omega)))
 all_goals exact ⟨⟨_,_,rfl,by (first | assumption | exact wr32 _ | exact br32 _ _ _ | exact and31 _ | (constructor <;> omega) | (apply fd32;first | assumption | exact wr32 _ | exact br32 _ _ _) | (apply tm32;first | assumption | exact wr32 _ | exact br32 _ _ _))⟩,hp⟩
end Go.Proofs.YtabbklpalbikdaaGreatDoor
end
