/- Small facts of the seat's types. -/
import Derived.Test.YthfiblbkkjcliaaE6
import Derived.Test.YthfiblbkkjcliaaE5
namespace Go.Proofs.Ythfiblbkkjcliaa
open Go.ChangeShapes Go.WideShapes Go.ChangeAt Go.RowKit
theorem sz0 : (Try.prog.info? 0).map (·.size) = some 1 := by kernel_rfl
theorem ce0 : Nat.blt 0 (Try.prog.cellsOf 0) = true := by kernel_rfl
theorem nf0 : ∃ i, Try.prog.info? 0 = some i := Option.isSome_iff_exists.1 (by kernel_rfl)
theorem sz1 : (Try.prog.info? 1).map (·.size) = some 1 := by kernel_rfl
theorem ce1 : Nat.blt 0 (Try.prog.cellsOf 1) = true := by kernel_rfl
theorem nf1 : ∃ i, Try.prog.info? 1 = some i := Option.isSome_iff_exists.1 (by kernel_rfl)
theorem sz2 : (Try.prog.info? 2).map (·.size) = some 1 := by kernel_rfl
theorem ce2 : Nat.blt 0 (Try.prog.cellsOf 2) = true := by kernel_rfl
theorem nf2 : ∃ i, Try.prog.info? 2 = some i := Option.isSome_iff_exists.1 (by kernel_rfl)
theorem zr2 : (Try.prog.info? 2).map (·.zero) = some (some (.int .i64 0)) := by kernel_rfl
theorem sz3 : (Try.prog.info? 3).map (·.size) = some 1 := by kernel_rfl
theorem ce3 : Nat.blt 0 (Try.prog.cellsOf 3) = true := by kernel_rfl
theorem nf3 : ∃ i, Try.prog.info? 3 = some i := Option.isSome_iff_exists.1 (by kernel_rfl)
theorem zr3 : (Try.prog.info? 3).map (·.zero) = some (some (.int .i64 0)) := by kernel_rfl
theorem sz4 : (Try.prog.info? 4).map (·.size) = some 1 := by kernel_rfl
theorem ce4 : Nat.blt 0 (Try.prog.cellsOf 4) = true := by kernel_rfl
theorem nf4 : ∃ i, Try.prog.info? 4 = some i := Option.isSome_iff_exists.1 (by kernel_rfl)
theorem zr4 : (Try.prog.info? 4).map (·.zero) = some (some (.bool false)) := by kernel_rfl
theorem sz5 : (Try.prog.info? 5).map (·.size) = some 1 := by kernel_rfl
theorem ce5 : Nat.blt 0 (Try.prog.cellsOf 5) = true := by kernel_rfl
theorem nf5 : ∃ i, Try.prog.info? 5 = some i := Option.isSome_iff_exists.1 (by kernel_rfl)
theorem zr5 : (Try.prog.info? 5).map (·.zero) = some (some (.int .u8 0)) := by kernel_rfl
theorem sz6 : (Try.prog.info? 6).map (·.size) = some 1 := by kernel_rfl
theorem ce6 : Nat.blt 0 (Try.prog.cellsOf 6) = true := by kernel_rfl
theorem nf6 : ∃ i, Try.prog.info? 6 = some i := Option.isSome_iff_exists.1 (by kernel_rfl)
theorem zr6 : (Try.prog.info? 6).map (·.zero) = some (some (.int .u8 0)) := by kernel_rfl
theorem sz7 : (Try.prog.info? 7).map (·.size) = some 4 := by kernel_rfl
theorem ce7 : Nat.blt 0 (Try.prog.cellsOf 7) = true := by kernel_rfl
theorem nf7 : ∃ i, Try.prog.info? 7 = some i := Option.isSome_iff_exists.1 (by kernel_rfl)
theorem zr7 : (Try.prog.info? 7).map (·.zero) = some (some (.agg [.int .i64 0, .int .i64 0, .bool false, .int .u8 0].toArray)) := by kernel_rfl
theorem st7 : StOf Try.prog 7 [(0, 1), (1, 1), (2, 1), (3, 1)] [.int .i64 0, .int .i64 0, .bool false, .int .u8 0] := ⟨_, Try.underlying7, by kernel_rfl, ⟨⟨rfl, by kernel_rfl⟩, ⟨rfl, by kernel_rfl⟩, ⟨rfl, by kernel_rfl⟩, ⟨rfl, by kernel_rfl⟩, trivial⟩⟩
theorem sz8 : (Try.prog.info? 8).map (·.size) = some 4 := by kernel_rfl
theorem ce8 : Nat.blt 0 (Try.prog.cellsOf 8) = true := by kernel_rfl
theorem nf8 : ∃ i, Try.prog.info? 8 = some i := Option.isSome_iff_exists.1 (by kernel_rfl)
theorem zr8 : (Try.prog.info? 8).map (·.zero) = some (some (.agg [.int .i64 0, .int .i64 0, .bool false, .int .u8 0].toArray)) := by kernel_rfl
theorem st8 : StOf Try.prog 8 [(0, 1), (1, 1), (2, 1), (3, 1)] [.int .i64 0, .int .i64 0, .bool false, .int .u8 0] := ⟨_, Try.underlying8, by kernel_rfl, ⟨⟨rfl, by kernel_rfl⟩, ⟨rfl, by kernel_rfl⟩, ⟨rfl, by kernel_rfl⟩, ⟨rfl, by kernel_rfl⟩, trivial⟩⟩
theorem sz9 : (Try.prog.info? 9).map (·.size) = some 1 := by kernel_rfl
theorem ce9 : Nat.blt 0 (Try.prog.cellsOf 9) = true := by kernel_rfl
theorem nf9 : ∃ i, Try.prog.info? 9 = some i := Option.isSome_iff_exists.1 (by kernel_rfl)
theorem zr9 : (Try.prog.info? 9).map (·.zero) = some (some (.string ⟨#[]⟩)) := by kernel_rfl
theorem sz10 : (Try.prog.info? 10).map (·.size) = some 1 := by kernel_rfl
theorem ce10 : Nat.blt 0 (Try.prog.cellsOf 10) = true := by kernel_rfl
theorem nf10 : ∃ i, Try.prog.info? 10 = some i := Option.isSome_iff_exists.1 (by kernel_rfl)
theorem zr10 : (Try.prog.info? 10).map (·.zero) = some (some (.string ⟨#[]⟩)) := by kernel_rfl
theorem sz11 : (Try.prog.info? 11).map (·.size) = some 1 := by kernel_rfl
theorem ce11 : Nat.blt 0 (Try.prog.cellsOf 11) = true := by kernel_rfl
theorem nf11 : ∃ i, Try.prog.info? 11 = some i := Option.isSome_iff_exists.1 (by kernel_rfl)
theorem zr11 : (Try.prog.info? 11).map (·.zero) = some (some (.string ⟨#[]⟩)) := by kernel_rfl
theorem sz12 : (Try.prog.info? 12).map (·.size) = some 1 := by kernel_rfl
theorem ce12 : Nat.blt 0 (Try.prog.cellsOf 12) = true := by kernel_rfl
theorem nf12 : ∃ i, Try.prog.info? 12 = some i := Option.isSome_iff_exists.1 (by kernel_rfl)
theorem zr12 : (Try.prog.info? 12).map (·.zero) = some (some (.int .u64 0)) := by kernel_rfl
theorem sz13 : (Try.prog.info? 13).map (·.size) = some 2 := by kernel_rfl
theorem ce13 : Nat.blt 0 (Try.prog.cellsOf 13) = true := by kernel_rfl
theorem nf13 : ∃ i, Try.prog.info? 13 = some i := Option.isSome_iff_exists.1 (by kernel_rfl)
theorem zr13 : (Try.prog.info? 13).map (·.zero) = some (some (.agg [.string ⟨#[]⟩, .int .u64 0].toArray)) := by kernel_rfl
theorem st13 : StOf Try.prog 13 [(0, 1), (1, 1)] [.string ⟨#[]⟩, .int .u64 0] := ⟨_, Try.underlying13, by kernel_rfl, ⟨⟨rfl, by kernel_rfl⟩, ⟨rfl, by kernel_rfl⟩, trivial⟩⟩
theorem sz14 : (Try.prog.info? 14).map (·.size) = some 2 := by kernel_rfl
theorem ce14 : Nat.blt 0 (Try.prog.cellsOf 14) = true := by kernel_rfl
theorem nf14 : ∃ i, Try.prog.info? 14 = some i := Option.isSome_iff_exists.1 (by kernel_rfl)
theorem zr14 : (Try.prog.info? 14).map (·.zero) = some (some (.agg [.string ⟨#[]⟩, .int .u64 0].toArray)) := by kernel_rfl
theorem st14 : StOf Try.prog 14 [(0, 1), (1, 1)] [.string ⟨#[]⟩, .int .u64 0] := ⟨_, Try.underlying14, by kernel_rfl, ⟨⟨rfl, by kernel_rfl⟩, ⟨rfl, by kernel_rfl⟩, trivial⟩⟩
theorem sz15 : (Try.prog.info? 15).map (·.size) = some 1 := by kernel_rfl
theorem ce15 : Nat.blt 0 (Try.prog.cellsOf 15) = true := by kernel_rfl
theorem nf15 : ∃ i, Try.prog.info? 15 = some i := Option.isSome_iff_exists.1 (by kernel_rfl)
theorem zr15 : (Try.prog.info? 15).map (·.zero) = some (some (.pointer none)) := by kernel_rfl
theorem sz16 : (Try.prog.info? 16).map (·.size) = some 1 := by kernel_rfl
theorem ce16 : Nat.blt 0 (Try.prog.cellsOf 16) = true := by kernel_rfl
theorem nf16 : ∃ i, Try.prog.info? 16 = some i := Option.isSome_iff_exists.1 (by kernel_rfl)
theorem zr16 : (Try.prog.info? 16).map (·.zero) = some (some (.pointer none)) := by kernel_rfl
theorem sz17 : (Try.prog.info? 17).map (·.size) = some 1 := by kernel_rfl
theorem ce17 : Nat.blt 0 (Try.prog.cellsOf 17) = true := by kernel_rfl
theorem nf17 : ∃ i, Try.prog.info? 17 = some i := Option.isSome_iff_exists.1 (by kernel_rfl)
theorem zr17 : (Try.prog.info? 17).map (·.zero) = some (some (.pointer none)) := by kernel_rfl
theorem sz18 : (Try.prog.info? 18).map (·.size) = some 1 := by kernel_rfl
theorem ce18 : Nat.blt 0 (Try.prog.cellsOf 18) = true := by kernel_rfl
theorem nf18 : ∃ i, Try.prog.info? 18 = some i := Option.isSome_iff_exists.1 (by kernel_rfl)
theorem zr18 : (Try.prog.info? 18).map (·.zero) = some (some (.agg [.pointer none].toArray)) := by kernel_rfl
theorem st18 : StOf Try.prog 18 [(0, 1)] [.pointer none] := ⟨_, Try.underlying18, by kernel_rfl, ⟨⟨rfl, by kernel_rfl⟩, trivial⟩⟩
theorem sz19 : (Try.prog.info? 19).map (·.size) = some 1 := by kernel_rfl
theorem ce19 : Nat.blt 0 (Try.prog.cellsOf 19) = true := by kernel_rfl
theorem nf19 : ∃ i, Try.prog.info? 19 = some i := Option.isSome_iff_exists.1 (by kernel_rfl)
theorem zr19 : (Try.prog.info? 19).map (·.zero) = some (some (.agg [.pointer none].toArray)) := by kernel_rfl
theorem st19 : StOf Try.prog 19 [(0, 1)] [.pointer none] := ⟨_, Try.underlying19, by kernel_rfl, ⟨⟨rfl, by kernel_rfl⟩, trivial⟩⟩
theorem sz20 : (Try.prog.info? 20).map (·.size) = some 1 := by kernel_rfl
theorem ce20 : Nat.blt 0 (Try.prog.cellsOf 20) = true := by kernel_rfl
theorem nf20 : ∃ i, Try.prog.info? 20 = some i := Option.isSome_iff_exists.1 (by kernel_rfl)
theorem sz21 : (Try.prog.info? 21).map (·.size) = some 1 := by kernel_rfl
theorem ce21 : Nat.blt 0 (Try.prog.cellsOf 21) = true := by kernel_rfl
theorem nf21 : ∃ i, Try.prog.info? 21 = some i := Option.isSome_iff_exists.1 (by kernel_rfl)
theorem zr21 : (Try.prog.info? 21).map (·.zero) = some (some (.int .i32 0)) := by kernel_rfl
theorem sz22 : (Try.prog.info? 22).map (·.size) = some 1 := by kernel_rfl
theorem ce22 : Nat.blt 0 (Try.prog.cellsOf 22) = true := by kernel_rfl
theorem nf22 : ∃ i, Try.prog.info? 22 = some i := Option.isSome_iff_exists.1 (by kernel_rfl)
theorem zr22 : (Try.prog.info? 22).map (·.zero) = some (some (.slice none 0 0)) := by kernel_rfl
theorem sz23 : (Try.prog.info? 23).map (·.size) = some 1 := by kernel_rfl
theorem ce23 : Nat.blt 0 (Try.prog.cellsOf 23) = true := by kernel_rfl
theorem nf23 : ∃ i, Try.prog.info? 23 = some i := Option.isSome_iff_exists.1 (by kernel_rfl)
theorem zr23 : (Try.prog.info? 23).map (·.zero) = some (some (.int .i64 0)) := by kernel_rfl
theorem sz24 : (Try.prog.info? 24).map (·.size) = some 1 := by kernel_rfl
theorem ce24 : Nat.blt 0 (Try.prog.cellsOf 24) = true := by kernel_rfl
theorem nf24 : ∃ i, Try.prog.info? 24 = some i := Option.isSome_iff_exists.1 (by kernel_rfl)
theorem sz25 : (Try.prog.info? 25).map (·.size) = some 1 := by kernel_rfl
theorem ce25 : Nat.blt 0 (Try.prog.cellsOf 25) = true := by kernel_rfl
theorem nf25 : ∃ i, Try.prog.info? 25 = some i := Option.isSome_iff_exists.1 (by kernel_rfl)
theorem sz26 : (Try.prog.info? 26).map (·.size) = some 1 := by kernel_rfl
theorem ce26 : Nat.blt 0 (Try.prog.cellsOf 26) = true := by kernel_rfl
theorem nf26 : ∃ i, Try.prog.info? 26 = some i := Option.isSome_iff_exists.1 (by kernel_rfl)
theorem sz27 : (Try.prog.info? 27).map (·.size) = some 1 := by kernel_rfl
theorem ce27 : Nat.blt 0 (Try.prog.cellsOf 27) = true := by kernel_rfl
theorem nf27 : ∃ i, Try.prog.info? 27 = some i := Option.isSome_iff_exists.1 (by kernel_rfl)
theorem zr27 : (Try.prog.info? 27).map (·.zero) = some (some (.slice none 0 0)) := by kernel_rfl
theorem sz28 : (Try.prog.info? 28).map (·.size) = some 1 := by kernel_rfl
theorem ce28 : Nat.blt 0 (Try.prog.cellsOf 28) = true := by kernel_rfl
theorem nf28 : ∃ i, Try.prog.info? 28 = some i := Option.isSome_iff_exists.1 (by kernel_rfl)
theorem sz29 : (Try.prog.info? 29).map (·.size) = some 1 := by kernel_rfl
theorem ce29 : Nat.blt 0 (Try.prog.cellsOf 29) = true := by kernel_rfl
theorem nf29 : ∃ i, Try.prog.info? 29 = some i := Option.isSome_iff_exists.1 (by kernel_rfl)
theorem sz30 : (Try.prog.info? 30).map (·.size) = some 1 := by kernel_rfl
theorem ce30 : Nat.blt 0 (Try.prog.cellsOf 30) = true := by kernel_rfl
theorem nf30 : ∃ i, Try.prog.info? 30 = some i := Option.isSome_iff_exists.1 (by kernel_rfl)
theorem sz31 : (Try.prog.info? 31).map (·.size) = some 1 := by kernel_rfl
theorem ce31 : Nat.blt 0 (Try.prog.cellsOf 31) = true := by kernel_rfl
theorem nf31 : ∃ i, Try.prog.info? 31 = some i := Option.isSome_iff_exists.1 (by kernel_rfl)
theorem sz32 : (Try.prog.info? 32).map (·.size) = some 1 := by kernel_rfl
theorem ce32 : Nat.blt 0 (Try.prog.cellsOf 32) = true := by kernel_rfl
theorem nf32 : ∃ i, Try.prog.info? 32 = some i := Option.isSome_iff_exists.1 (by kernel_rfl)
theorem sz33 : (Try.prog.info? 33).map (·.size) = some 1 := by kernel_rfl
theorem ce33 : Nat.blt 0 (Try.prog.cellsOf 33) = true := by kernel_rfl
theorem nf33 : ∃ i, Try.prog.info? 33 = some i := Option.isSome_iff_exists.1 (by kernel_rfl)
theorem sz34 : (Try.prog.info? 34).map (·.size) = some 1 := by kernel_rfl
theorem ce34 : Nat.blt 0 (Try.prog.cellsOf 34) = true := by kernel_rfl
theorem nf34 : ∃ i, Try.prog.info? 34 = some i := Option.isSome_iff_exists.1 (by kernel_rfl)
theorem sz35 : (Try.prog.info? 35).map (·.size) = some 1 := by kernel_rfl
theorem ce35 : Nat.blt 0 (Try.prog.cellsOf 35) = true := by kernel_rfl
theorem nf35 : ∃ i, Try.prog.info? 35 = some i := Option.isSome_iff_exists.1 (by kernel_rfl)
theorem sz36 : (Try.prog.info? 36).map (·.size) = some 1 := by kernel_rfl
theorem ce36 : Nat.blt 0 (Try.prog.cellsOf 36) = true := by kernel_rfl
theorem nf36 : ∃ i, Try.prog.info? 36 = some i := Option.isSome_iff_exists.1 (by kernel_rfl)
theorem zr36 : (Try.prog.info? 36).map (·.zero) = some (some (.slice none 0 0)) := by kernel_rfl
theorem sz37 : (Try.prog.info? 37).map (·.size) = some 2 := by kernel_rfl
theorem ce37 : Nat.blt 0 (Try.prog.cellsOf 37) = true := by kernel_rfl
theorem nf37 : ∃ i, Try.prog.info? 37 = some i := Option.isSome_iff_exists.1 (by kernel_rfl)
theorem zr37 : (Try.prog.info? 37).map (·.zero) = some (some (.agg [.slice none 0 0, .int .i64 0].toArray)) := by kernel_rfl
theorem st37 : StOf Try.prog 37 [(0, 1), (1, 1)] [.slice none 0 0, .int .i64 0] := ⟨_, Try.underlying37, by kernel_rfl, ⟨⟨rfl, by kernel_rfl⟩, ⟨rfl, by kernel_rfl⟩, trivial⟩⟩
theorem sz38 : (Try.prog.info? 38).map (·.size) = some 2 := by kernel_rfl
theorem ce38 : Nat.blt 0 (Try.prog.cellsOf 38) = true := by kernel_rfl
theorem nf38 : ∃ i, Try.prog.info? 38 = some i := Option.isSome_iff_exists.1 (by kernel_rfl)
theorem zr38 : (Try.prog.info? 38).map (·.zero) = some (some (.agg [.slice none 0 0, .int .i64 0].toArray)) := by kernel_rfl
theorem st38 : StOf Try.prog 38 [(0, 1), (1, 1)] [.slice none 0 0, .int .i64 0] := ⟨_, Try.underlying38, by kernel_rfl, ⟨⟨rfl, by kernel_rfl⟩, ⟨rfl, by kernel_rfl⟩, trivial⟩⟩
theorem sz39 : (Try.prog.info? 39).map (·.size) = some 1 := by kernel_rfl
theorem ce39 : Nat.blt 0 (Try.prog.cellsOf 39) = true := by kernel_rfl
theorem nf39 : ∃ i, Try.prog.info? 39 = some i := Option.isSome_iff_exists.1 (by kernel_rfl)
theorem sz40 : (Try.prog.info? 40).map (·.size) = some 1 := by kernel_rfl
theorem ce40 : Nat.blt 0 (Try.prog.cellsOf 40) = true := by kernel_rfl
theorem nf40 : ∃ i, Try.prog.info? 40 = some i := Option.isSome_iff_exists.1 (by kernel_rfl)
theorem sz41 : (Try.prog.info? 41).map (·.size) = some 1 := by kernel_rfl
theorem ce41 : Nat.blt 0 (Try.prog.cellsOf 41) = true := by kernel_rfl
theorem nf41 : ∃ i, Try.prog.info? 41 = some i := Option.isSome_iff_exists.1 (by kernel_rfl)
theorem sz42 : (Try.prog.info? 42).map (·.size) = some 1 := by kernel_rfl
theorem ce42 : Nat.blt 0 (Try.prog.cellsOf 42) = true := by kernel_rfl
theorem nf42 : ∃ i, Try.prog.info? 42 = some i := Option.isSome_iff_exists.1 (by kernel_rfl)
theorem sz43 : (Try.prog.info? 43).map (·.size) = some 1 := by kernel_rfl
theorem ce43 : Nat.blt 0 (Try.prog.cellsOf 43) = true := by kernel_rfl
theorem nf43 : ∃ i, Try.prog.info? 43 = some i := Option.isSome_iff_exists.1 (by kernel_rfl)
theorem sz44 : (Try.prog.info? 44).map (·.size) = some 1 := by kernel_rfl
theorem ce44 : Nat.blt 0 (Try.prog.cellsOf 44) = true := by kernel_rfl
theorem nf44 : ∃ i, Try.prog.info? 44 = some i := Option.isSome_iff_exists.1 (by kernel_rfl)
theorem sz45 : (Try.prog.info? 45).map (·.size) = some 1 := by kernel_rfl
theorem ce45 : Nat.blt 0 (Try.prog.cellsOf 45) = true := by kernel_rfl
theorem nf45 : ∃ i, Try.prog.info? 45 = some i := Option.isSome_iff_exists.1 (by kernel_rfl)
theorem sz46 : (Try.prog.info? 46).map (·.size) = some 1 := by kernel_rfl
theorem ce46 : Nat.blt 0 (Try.prog.cellsOf 46) = true := by kernel_rfl
theorem nf46 : ∃ i, Try.prog.info? 46 = some i := Option.isSome_iff_exists.1 (by kernel_rfl)
theorem sz47 : (Try.prog.info? 47).map (·.size) = some 1 := by kernel_rfl
theorem ce47 : Nat.blt 0 (Try.prog.cellsOf 47) = true := by kernel_rfl
theorem nf47 : ∃ i, Try.prog.info? 47 = some i := Option.isSome_iff_exists.1 (by kernel_rfl)
theorem sz48 : (Try.prog.info? 48).map (·.size) = some 1 := by kernel_rfl
theorem ce48 : Nat.blt 0 (Try.prog.cellsOf 48) = true := by kernel_rfl
theorem nf48 : ∃ i, Try.prog.info? 48 = some i := Option.isSome_iff_exists.1 (by kernel_rfl)
theorem sz49 : (Try.prog.info? 49).map (·.size) = some 1 := by kernel_rfl
theorem ce49 : Nat.blt 0 (Try.prog.cellsOf 49) = true := by kernel_rfl
theorem nf49 : ∃ i, Try.prog.info? 49 = some i := Option.isSome_iff_exists.1 (by kernel_rfl)
theorem sz50 : (Try.prog.info? 50).map (·.size) = some 1 := by kernel_rfl
theorem ce50 : Nat.blt 0 (Try.prog.cellsOf 50) = true := by kernel_rfl
theorem nf50 : ∃ i, Try.prog.info? 50 = some i := Option.isSome_iff_exists.1 (by kernel_rfl)
theorem zr50 : (Try.prog.info? 50).map (·.zero) = some (some (.slice none 0 0)) := by kernel_rfl
theorem sz51 : (Try.prog.info? 51).map (·.size) = some 1 := by kernel_rfl
theorem ce51 : Nat.blt 0 (Try.prog.cellsOf 51) = true := by kernel_rfl
theorem nf51 : ∃ i, Try.prog.info? 51 = some i := Option.isSome_iff_exists.1 (by kernel_rfl)
theorem sz52 : (Try.prog.info? 52).map (·.size) = some 1 := by kernel_rfl
theorem ce52 : Nat.blt 0 (Try.prog.cellsOf 52) = true := by kernel_rfl
theorem nf52 : ∃ i, Try.prog.info? 52 = some i := Option.isSome_iff_exists.1 (by kernel_rfl)
theorem sz53 : (Try.prog.info? 53).map (·.size) = some 1 := by kernel_rfl
theorem ce53 : Nat.blt 0 (Try.prog.cellsOf 53) = true := by kernel_rfl
theorem nf53 : ∃ i, Try.prog.info? 53 = some i := Option.isSome_iff_exists.1 (by kernel_rfl)
theorem sz54 : (Try.prog.info? 54).map (·.size) = some 1 := by kernel_rfl
theorem ce54 : Nat.blt 0 (Try.prog.cellsOf 54) = true := by kernel_rfl
theorem nf54 : ∃ i, Try.prog.info? 54 = some i := Option.isSome_iff_exists.1 (by kernel_rfl)
theorem sz55 : (Try.prog.info? 55).map (·.size) = some 1 := by kernel_rfl
theorem ce55 : Nat.blt 0 (Try.prog.cellsOf 55) = true := by kernel_rfl
theorem nf55 : ∃ i, Try.prog.info? 55 = some i := Option.isSome_iff_exists.1 (by kernel_rfl)
theorem sz56 : (Try.prog.info? 56).map (·.size) = some 1 := by kernel_rfl
theorem ce56 : Nat.blt 0 (Try.prog.cellsOf 56) = true := by kernel_rfl
theorem nf56 : ∃ i, Try.prog.info? 56 = some i := Option.isSome_iff_exists.1 (by kernel_rfl)
theorem sz57 : (Try.prog.info? 57).map (·.size) = some 1 := by kernel_rfl
theorem ce57 : Nat.blt 0 (Try.prog.cellsOf 57) = true := by kernel_rfl
theorem nf57 : ∃ i, Try.prog.info? 57 = some i := Option.isSome_iff_exists.1 (by kernel_rfl)
theorem zr57 : (Try.prog.info? 57).map (·.zero) = some (some (.slice none 0 0)) := by kernel_rfl
theorem sz58 : (Try.prog.info? 58).map (·.size) = some 1 := by kernel_rfl
theorem ce58 : Nat.blt 0 (Try.prog.cellsOf 58) = true := by kernel_rfl
theorem nf58 : ∃ i, Try.prog.info? 58 = some i := Option.isSome_iff_exists.1 (by kernel_rfl)
theorem zr58 : (Try.prog.info? 58).map (·.zero) = some (some (.slice none 0 0)) := by kernel_rfl
theorem sz59 : (Try.prog.info? 59).map (·.size) = some 1 := by kernel_rfl
theorem ce59 : Nat.blt 0 (Try.prog.cellsOf 59) = true := by kernel_rfl
theorem nf59 : ∃ i, Try.prog.info? 59 = some i := Option.isSome_iff_exists.1 (by kernel_rfl)
theorem zr59 : (Try.prog.info? 59).map (·.zero) = some (some (.pointer none)) := by kernel_rfl
theorem sz60 : (Try.prog.info? 60).map (·.size) = some 2 := by kernel_rfl
theorem ce60 : Nat.blt 0 (Try.prog.cellsOf 60) = true := by kernel_rfl
theorem nf60 : ∃ i, Try.prog.info? 60 = some i := Option.isSome_iff_exists.1 (by kernel_rfl)
theorem zr60 : (Try.prog.info? 60).map (·.zero) = some (some (.agg [.int .i64 0, .int .i64 0].toArray)) := by kernel_rfl
theorem sz61 : (Try.prog.info? 61).map (·.size) = some 4 := by kernel_rfl
theorem ce61 : Nat.blt 0 (Try.prog.cellsOf 61) = true := by kernel_rfl
theorem nf61 : ∃ i, Try.prog.info? 61 = some i := Option.isSome_iff_exists.1 (by kernel_rfl)
theorem zr61 : (Try.prog.info? 61).map (·.zero) = some (some (.agg [.int .i64 0, .int .i64 0, .int .i64 0, .int .i64 0].toArray)) := by kernel_rfl
theorem sz62 : (Try.prog.info? 62).map (·.size) = some 5 := by kernel_rfl
theorem ce62 : Nat.blt 0 (Try.prog.cellsOf 62) = true := by kernel_rfl
theorem nf62 : ∃ i, Try.prog.info? 62 = some i := Option.isSome_iff_exists.1 (by kernel_rfl)
theorem zr62 : (Try.prog.info? 62).map (·.zero) = some (some (.agg [.int .i64 0, .int .i64 0, .int .i64 0, .int .i64 0, .bool false].toArray)) := by kernel_rfl
theorem st62 : StOf Try.prog 62 [(0, 1), (1, 1), (2, 1), (3, 1), (4, 1)] [.int .i64 0, .int .i64 0, .int .i64 0, .int .i64 0, .bool false] := ⟨_, Try.underlying62, by kernel_rfl, ⟨⟨rfl, by kernel_rfl⟩, ⟨rfl, by kernel_rfl⟩, ⟨rfl, by kernel_rfl⟩, ⟨rfl, by kernel_rfl⟩, ⟨rfl, by kernel_rfl⟩, trivial⟩⟩
theorem sz63 : (Try.prog.info? 63).map (·.size) = some 5 := by kernel_rfl
theorem ce63 : Nat.blt 0 (Try.prog.cellsOf 63) = true := by kernel_rfl
theorem nf63 : ∃ i, Try.prog.info? 63 = some i := Option.isSome_iff_exists.1 (by kernel_rfl)
theorem zr63 : (Try.prog.info? 63).map (·.zero) = some (some (.agg [.int .i64 0, .int .i64 0, .int .i64 0, .int .i64 0, .bool false].toArray)) := by kernel_rfl
theorem st63 : StOf Try.prog 63 [(0, 1), (1, 1), (2, 1), (3, 1), (4, 1)] [.int .i64 0, .int .i64 0, .int .i64 0, .int .i64 0, .bool false] := ⟨_, Try.underlying63, by kernel_rfl, ⟨⟨rfl, by kernel_rfl⟩, ⟨rfl, by kernel_rfl⟩, ⟨rfl, by kernel_rfl⟩, ⟨rfl, by kernel_rfl⟩, ⟨rfl, by kernel_rfl⟩, trivial⟩⟩
theorem sz64 : (Try.prog.info? 64).map (·.size) = some 1 := by kernel_rfl
theorem ce64 : Nat.blt 0 (Try.prog.cellsOf 64) = true := by kernel_rfl
theorem nf64 : ∃ i, Try.prog.info? 64 = some i := Option.isSome_iff_exists.1 (by kernel_rfl)
theorem sz65 : (Try.prog.info? 65).map (·.size) = some 1 := by kernel_rfl
theorem ce65 : Nat.blt 0 (Try.prog.cellsOf 65) = true := by kernel_rfl
theorem nf65 : ∃ i, Try.prog.info? 65 = some i := Option.isSome_iff_exists.1 (by kernel_rfl)
theorem zr65 : (Try.prog.info? 65).map (·.zero) = some (some (.slice none 0 0)) := by kernel_rfl
theorem sz66 : (Try.prog.info? 66).map (·.size) = some 1 := by kernel_rfl
theorem ce66 : Nat.blt 0 (Try.prog.cellsOf 66) = true := by kernel_rfl
theorem nf66 : ∃ i, Try.prog.info? 66 = some i := Option.isSome_iff_exists.1 (by kernel_rfl)
theorem sz67 : (Try.prog.info? 67).map (·.size) = some 1 := by kernel_rfl
theorem ce67 : Nat.blt 0 (Try.prog.cellsOf 67) = true := by kernel_rfl
theorem nf67 : ∃ i, Try.prog.info? 67 = some i := Option.isSome_iff_exists.1 (by kernel_rfl)
theorem sz68 : (Try.prog.info? 68).map (·.size) = some 1 := by kernel_rfl
theorem ce68 : Nat.blt 0 (Try.prog.cellsOf 68) = true := by kernel_rfl
theorem nf68 : ∃ i, Try.prog.info? 68 = some i := Option.isSome_iff_exists.1 (by kernel_rfl)
theorem sz69 : (Try.prog.info? 69).map (·.size) = some 1 := by kernel_rfl
theorem ce69 : Nat.blt 0 (Try.prog.cellsOf 69) = true := by kernel_rfl
theorem nf69 : ∃ i, Try.prog.info? 69 = some i := Option.isSome_iff_exists.1 (by kernel_rfl)
theorem sz70 : (Try.prog.info? 70).map (·.size) = some 1 := by kernel_rfl
theorem ce70 : Nat.blt 0 (Try.prog.cellsOf 70) = true := by kernel_rfl
theorem nf70 : ∃ i, Try.prog.info? 70 = some i := Option.isSome_iff_exists.1 (by kernel_rfl)
theorem sz71 : (Try.prog.info? 71).map (·.size) = some 1 := by kernel_rfl
theorem ce71 : Nat.blt 0 (Try.prog.cellsOf 71) = true := by kernel_rfl
theorem nf71 : ∃ i, Try.prog.info? 71 = some i := Option.isSome_iff_exists.1 (by kernel_rfl)
theorem sz72 : (Try.prog.info? 72).map (·.size) = some 1 := by kernel_rfl
theorem ce72 : Nat.blt 0 (Try.prog.cellsOf 72) = true := by kernel_rfl
theorem nf72 : ∃ i, Try.prog.info? 72 = some i := Option.isSome_iff_exists.1 (by kernel_rfl)
theorem sz73 : (Try.prog.info? 73).map (·.size) = some 1 := by kernel_rfl
theorem ce73 : Nat.blt 0 (Try.prog.cellsOf 73) = true := by kernel_rfl
theorem nf73 : ∃ i, Try.prog.info? 73 = some i := Option.isSome_iff_exists.1 (by kernel_rfl)
theorem sz74 : (Try.prog.info? 74).map (·.size) = some 1 := by kernel_rfl
theorem ce74 : Nat.blt 0 (Try.prog.cellsOf 74) = true := by kernel_rfl
theorem nf74 : ∃ i, Try.prog.info? 74 = some i := Option.isSome_iff_exists.1 (by kernel_rfl)
theorem sz75 : (Try.prog.info? 75).map (·.size) = some 1 := by kernel_rfl
theorem ce75 : Nat.blt 0 (Try.prog.cellsOf 75) = true := by kernel_rfl
theorem nf75 : ∃ i, Try.prog.info? 75 = some i := Option.isSome_iff_exists.1 (by kernel_rfl)
theorem sz76 : (Try.prog.info? 76).map (·.size) = some 1 := by kernel_rfl
theorem ce76 : Nat.blt 0 (Try.prog.cellsOf 76) = true := by kernel_rfl
theorem nf76 : ∃ i, Try.prog.info? 76 = some i := Option.isSome_iff_exists.1 (by kernel_rfl)
theorem sz77 : (Try.prog.info? 77).map (·.size) = some 1 := by kernel_rfl
theorem ce77 : Nat.blt 0 (Try.prog.cellsOf 77) = true := by kernel_rfl
theorem nf77 : ∃ i, Try.prog.info? 77 = some i := Option.isSome_iff_exists.1 (by kernel_rfl)
theorem sz78 : (Try.prog.info? 78).map (·.size) = some 1 := by kernel_rfl
theorem ce78 : Nat.blt 0 (Try.prog.cellsOf 78) = true := by kernel_rfl
theorem nf78 : ∃ i, Try.prog.info? 78 = some i := Option.isSome_iff_exists.1 (by kernel_rfl)
theorem sz79 : (Try.prog.info? 79).map (·.size) = some 1 := by kernel_rfl
theorem ce79 : Nat.blt 0 (Try.prog.cellsOf 79) = true := by kernel_rfl
theorem nf79 : ∃ i, Try.prog.info? 79 = some i := Option.isSome_iff_exists.1 (by kernel_rfl)
theorem sz80 : (Try.prog.info? 80).map (·.size) = some 1 := by kernel_rfl
theorem ce80 : Nat.blt 0 (Try.prog.cellsOf 80) = true := by kernel_rfl
theorem nf80 : ∃ i, Try.prog.info? 80 = some i := Option.isSome_iff_exists.1 (by kernel_rfl)
theorem sz81 : (Try.prog.info? 81).map (·.size) = some 4 := by kernel_rfl
theorem ce81 : Nat.blt 0 (Try.prog.cellsOf 81) = true := by kernel_rfl
theorem nf81 : ∃ i, Try.prog.info? 81 = some i := Option.isSome_iff_exists.1 (by kernel_rfl)
theorem zr81 : (Try.prog.info? 81).map (·.zero) = some (some (.agg [.pointer none, .pointer none, .pointer none, .string ⟨#[]⟩].toArray)) := by kernel_rfl
theorem st81 : StOf Try.prog 81 [(0, 1), (1, 1), (2, 1), (3, 1)] [.pointer none, .pointer none, .pointer none, .string ⟨#[]⟩] := ⟨_, Try.underlying81, by kernel_rfl, ⟨⟨rfl, by kernel_rfl⟩, ⟨rfl, by kernel_rfl⟩, ⟨rfl, by kernel_rfl⟩, ⟨rfl, by kernel_rfl⟩, trivial⟩⟩
theorem sz82 : (Try.prog.info? 82).map (·.size) = some 4 := by kernel_rfl
theorem ce82 : Nat.blt 0 (Try.prog.cellsOf 82) = true := by kernel_rfl
theorem nf82 : ∃ i, Try.prog.info? 82 = some i := Option.isSome_iff_exists.1 (by kernel_rfl)
theorem zr82 : (Try.prog.info? 82).map (·.zero) = some (some (.agg [.pointer none, .pointer none, .pointer none, .string ⟨#[]⟩].toArray)) := by kernel_rfl
theorem st82 : StOf Try.prog 82 [(0, 1), (1, 1), (2, 1), (3, 1)] [.pointer none, .pointer none, .pointer none, .string ⟨#[]⟩] := ⟨_, Try.underlying82, by kernel_rfl, ⟨⟨rfl, by kernel_rfl⟩, ⟨rfl, by kernel_rfl⟩, ⟨rfl, by kernel_rfl⟩, ⟨rfl, by kernel_rfl⟩, trivial⟩⟩
theorem sz83 : (Try.prog.info? 83).map (·.size) = some 0 := by kernel_rfl
theorem nf83 : ∃ i, Try.prog.info? 83 = some i := Option.isSome_iff_exists.1 (by kernel_rfl)
theorem zr83 : (Try.prog.info? 83).map (·.zero) = some (some (.agg [].toArray)) := by kernel_rfl
theorem sz84 : (Try.prog.info? 84).map (·.size) = some 0 := by kernel_rfl
theorem nf84 : ∃ i, Try.prog.info? 84 = some i := Option.isSome_iff_exists.1 (by kernel_rfl)
theorem zr84 : (Try.prog.info? 84).map (·.zero) = some (some (.agg [].toArray)) := by kernel_rfl
theorem st84 : StOf Try.prog 84 [(0, 0)] [] := ⟨_, Try.underlying84, by kernel_rfl, ⟨⟨rfl, by kernel_rfl⟩, trivial⟩⟩
theorem sz85 : (Try.prog.info? 85).map (·.size) = some 0 := by kernel_rfl
theorem nf85 : ∃ i, Try.prog.info? 85 = some i := Option.isSome_iff_exists.1 (by kernel_rfl)
theorem zr85 : (Try.prog.info? 85).map (·.zero) = some (some (.agg [].toArray)) := by kernel_rfl
theorem st85 : StOf Try.prog 85 [(0, 0)] [] := ⟨_, Try.underlying85, by kernel_rfl, ⟨⟨rfl, by kernel_rfl⟩, trivial⟩⟩
theorem sz86 : (Try.prog.info? 86).map (·.size) = some 1 := by kernel_rfl
theorem ce86 : Nat.blt 0 (Try.prog.cellsOf 86) = true := by kernel_rfl
theorem nf86 : ∃ i, Try.prog.info? 86 = some i := Option.isSome_iff_exists.1 (by kernel_rfl)
theorem sz87 : (Try.prog.info? 87).map (·.size) = some 1 := by kernel_rfl
theorem ce87 : Nat.blt 0 (Try.prog.cellsOf 87) = true := by kernel_rfl
theorem nf87 : ∃ i, Try.prog.info? 87 = some i := Option.isSome_iff_exists.1 (by kernel_rfl)
theorem zr87 : (Try.prog.info? 87).map (·.zero) = some (some (.int .u32 0)) := by kernel_rfl
theorem sz88 : (Try.prog.info? 88).map (·.size) = some 1 := by kernel_rfl
theorem ce88 : Nat.blt 0 (Try.prog.cellsOf 88) = true := by kernel_rfl
theorem nf88 : ∃ i, Try.prog.info? 88 = some i := Option.isSome_iff_exists.1 (by kernel_rfl)
theorem zr88 : (Try.prog.info? 88).map (·.zero) = some (some (.int .u8 0)) := by kernel_rfl
theorem sz89 : (Try.prog.info? 89).map (·.size) = some 1 := by kernel_rfl
theorem ce89 : Nat.blt 0 (Try.prog.cellsOf 89) = true := by kernel_rfl
theorem nf89 : ∃ i, Try.prog.info? 89 = some i := Option.isSome_iff_exists.1 (by kernel_rfl)
theorem zr89 : (Try.prog.info? 89).map (·.zero) = some (some (.int .u8 0)) := by kernel_rfl
theorem sz90 : (Try.prog.info? 90).map (·.size) = some 1 := by kernel_rfl
theorem ce90 : Nat.blt 0 (Try.prog.cellsOf 90) = true := by kernel_rfl
theorem nf90 : ∃ i, Try.prog.info? 90 = some i := Option.isSome_iff_exists.1 (by kernel_rfl)
theorem sz91 : (Try.prog.info? 91).map (·.size) = some 1 := by kernel_rfl
theorem ce91 : Nat.blt 0 (Try.prog.cellsOf 91) = true := by kernel_rfl
theorem nf91 : ∃ i, Try.prog.info? 91 = some i := Option.isSome_iff_exists.1 (by kernel_rfl)
theorem zr91 : (Try.prog.info? 91).map (·.zero) = some (some (.pointer none)) := by kernel_rfl
theorem sz92 : (Try.prog.info? 92).map (·.size) = some 1 := by kernel_rfl
theorem ce92 : Nat.blt 0 (Try.prog.cellsOf 92) = true := by kernel_rfl
theorem nf92 : ∃ i, Try.prog.info? 92 = some i := Option.isSome_iff_exists.1 (by kernel_rfl)
theorem zr92 : (Try.prog.info? 92).map (·.zero) = some (some (.int .i32 0)) := by kernel_rfl
theorem sz93 : (Try.prog.info? 93).map (·.size) = some 1 := by kernel_rfl
theorem ce93 : Nat.blt 0 (Try.prog.cellsOf 93) = true := by kernel_rfl
theorem nf93 : ∃ i, Try.prog.info? 93 = some i := Option.isSome_iff_exists.1 (by kernel_rfl)
theorem zr93 : (Try.prog.info? 93).map (·.zero) = some (some (.int .i32 0)) := by kernel_rfl
theorem sz94 : (Try.prog.info? 94).map (·.size) = some 11 := by kernel_rfl
theorem ce94 : Nat.blt 0 (Try.prog.cellsOf 94) = true := by kernel_rfl
theorem nf94 : ∃ i, Try.prog.info? 94 = some i := Option.isSome_iff_exists.1 (by kernel_rfl)
theorem zr94 : (Try.prog.info? 94).map (·.zero) = some (some (.agg [.int .u64 0, .int .u64 0, .int .u32 0, .int .u8 0, .int .u8 0, .int .u8 0, .int .u8 0, .nilFunc, .pointer none, .int .i32 0, .int .i32 0].toArray)) := by kernel_rfl
theorem st94 : StOf Try.prog 94 [(0, 1), (1, 1), (2, 1), (3, 1), (4, 1), (5, 1), (6, 1), (7, 1), (8, 1), (9, 1), (10, 1)] [.int .u64 0, .int .u64 0, .int .u32 0, .int .u8 0, .int .u8 0, .int .u8 0, .int .u8 0, .nilFunc, .pointer none, .int .i32 0, .int .i32 0] := ⟨_, Try.underlying94, by kernel_rfl, ⟨⟨rfl, by kernel_rfl⟩, ⟨rfl, by kernel_rfl⟩, ⟨rfl, by kernel_rfl⟩, ⟨rfl, by kernel_rfl⟩, ⟨rfl, by kernel_rfl⟩, ⟨rfl, by kernel_rfl⟩, ⟨rfl, by kernel_rfl⟩, ⟨rfl, by kernel_rfl⟩, ⟨rfl, by kernel_rfl⟩, ⟨rfl, by kernel_rfl⟩, ⟨rfl, by kernel_rfl⟩, trivial⟩⟩
theorem sz95 : (Try.prog.info? 95).map (·.size) = some 11 := by kernel_rfl
theorem ce95 : Nat.blt 0 (Try.prog.cellsOf 95) = true := by kernel_rfl
theorem nf95 : ∃ i, Try.prog.info? 95 = some i := Option.isSome_iff_exists.1 (by kernel_rfl)
theorem zr95 : (Try.prog.info? 95).map (·.zero) = some (some (.agg [.int .u64 0, .int .u64 0, .int .u32 0, .int .u8 0, .int .u8 0, .int .u8 0, .int .u8 0, .nilFunc, .pointer none, .int .i32 0, .int .i32 0].toArray)) := by kernel_rfl
theorem st95 : StOf Try.prog 95 [(0, 1), (1, 1), (2, 1), (3, 1), (4, 1), (5, 1), (6, 1), (7, 1), (8, 1), (9, 1), (10, 1)] [.int .u64 0, .int .u64 0, .int .u32 0, .int .u8 0, .int .u8 0, .int .u8 0, .int .u8 0, .nilFunc, .pointer none, .int .i32 0, .int .i32 0] := ⟨_, Try.underlying95, by kernel_rfl, ⟨⟨rfl, by kernel_rfl⟩, ⟨rfl, by kernel_rfl⟩, ⟨rfl, by kernel_rfl⟩, ⟨rfl, by kernel_rfl⟩, ⟨rfl, by kernel_rfl⟩, ⟨rfl, by kernel_rfl⟩, ⟨rfl, by kernel_rfl⟩, ⟨rfl, by kernel_rfl⟩, ⟨rfl, by kernel_rfl⟩, ⟨rfl, by kernel_rfl⟩, ⟨rfl, by kernel_rfl⟩, trivial⟩⟩
theorem sz96 : (Try.prog.info? 96).map (·.size) = some 1 := by kernel_rfl
theorem ce96 : Nat.blt 0 (Try.prog.cellsOf 96) = true := by kernel_rfl
theorem nf96 : ∃ i, Try.prog.info? 96 = some i := Option.isSome_iff_exists.1 (by kernel_rfl)
theorem zr96 : (Try.prog.info? 96).map (·.zero) = some (some (.pointer none)) := by kernel_rfl
theorem cf2 : ∀ args w, (callFunc 2 args).run Try.prog w = .ok (.enter 2 args) w := enter_ok (c := Try.f2.body.getD .skip) Try.func2 (by decide) rfl
theorem cf3 : ∀ args w, (callFunc 3 args).run Try.prog w = .ok (.enter 3 args) w := enter_ok (c := Try.f3.body.getD .skip) Try.func3 (by decide) rfl
theorem cf4 : ∀ args w, (callFunc 4 args).run Try.prog w = .ok (.enter 4 args) w := enter_ok (c := Try.f4.body.getD .skip) Try.func4 (by decide) rfl
theorem cf5 : ∀ args w, (callFunc 5 args).run Try.prog w = .ok (.enter 5 args) w := enter_ok (c := Try.f5.body.getD .skip) Try.func5 (by decide) rfl
theorem cf6 : ∀ args w, (callFunc 6 args).run Try.prog w = .ok (.enter 6 args) w := enter_ok (c := Try.f6.body.getD .skip) Try.func6 (by decide) rfl
theorem cf7 : ∀ args w, (callFunc 7 args).run Try.prog w = .ok (.enter 7 args) w := enter_ok (c := Try.f7.body.getD .skip) Try.func7 (by decide) rfl
theorem cf8 : ∀ args w, (callFunc 8 args).run Try.prog w = .ok (.enter 8 args) w := enter_ok (c := Try.f8.body.getD .skip) Try.func8 (by decide) rfl
theorem cf9 : ∀ args w, (callFunc 9 args).run Try.prog w = .ok (.enter 9 args) w := enter_ok (c := Try.f9.body.getD .skip) Try.func9 (by decide) rfl
theorem cf10 : ∀ args w, (callFunc 10 args).run Try.prog w = .ok (.enter 10 args) w := enter_ok (c := Try.f10.body.getD .skip) Try.func10 (by decide) rfl
theorem cf11 : ∀ args w, (callFunc 11 args).run Try.prog w = .ok (.enter 11 args) w := enter_ok (c := Try.f11.body.getD .skip) Try.func11 (by decide) rfl
theorem cf12 : ∀ args w, (callFunc 12 args).run Try.prog w = .ok (.enter 12 args) w := enter_ok (c := Try.f12.body.getD .skip) Try.func12 (by decide) rfl
theorem cf13 : ∀ args w, (callFunc 13 args).run Try.prog w = .ok (.enter 13 args) w := enter_ok (c := Try.f13.body.getD .skip) Try.func13 (by decide) rfl
theorem cf14 : ∀ args w, (callFunc 14 args).run Try.prog w = .ok (.enter 14 args) w := enter_ok (c := Try.f14.body.getD .skip) Try.func14 (by decide) rfl
theorem cf15 : ∀ args w, (callFunc 15 args).run Try.prog w = .ok (.enter 15 args) w := enter_ok (c := Try.f15.body.getD .skip) Try.func15 (by decide) rfl
theorem cf16 : ∀ args w, (callFunc 16 args).run Try.prog w = .ok (.enter 16 args) w := enter_ok (c := Try.f16.body.getD .skip) Try.func16 (by decide) rfl
theorem cf17 : ∀ args w, (callFunc 17 args).run Try.prog w = .ok (.enter 17 args) w := enter_ok (c := Try.f17.body.getD .skip) Try.func17 (by decide) rfl
theorem cf18 : ∀ args w, (callFunc 18 args).run Try.prog w = .ok (.enter 18 args) w := enter_ok (c := Try.f18.body.getD .skip) Try.func18 (by decide) rfl
theorem cf19 : ∀ args w, (callFunc 19 args).run Try.prog w = .ok (.enter 19 args) w := enter_ok (c := Try.f19.body.getD .skip) Try.func19 (by decide) rfl
theorem cf20 : ∀ args w, (callFunc 20 args).run Try.prog w = .ok (.enter 20 args) w := enter_ok (c := Try.f20.body.getD .skip) Try.func20 (by decide) rfl
theorem cf21 : ∀ args w, (callFunc 21 args).run Try.prog w = .ok (.enter 21 args) w := enter_ok (c := Try.f21.body.getD .skip) Try.func21 (by decide) rfl
theorem cf22 : ∀ args w, (callFunc 22 args).run Try.prog w = .ok (.enter 22 args) w := enter_ok (c := Try.f22.body.getD .skip) Try.func22 (by decide) rfl
theorem cf23 : ∀ args w, (callFunc 23 args).run Try.prog w = .ok (.enter 23 args) w := enter_ok (c := Try.f23.body.getD .skip) Try.func23 (by decide) rfl
theorem cf24 : ∀ args w, (callFunc 24 args).run Try.prog w = .ok (.enter 24 args) w := enter_ok (c := Try.f24.body.getD .skip) Try.func24 (by decide) rfl
theorem cf25 : ∀ args w, (callFunc 25 args).run Try.prog w = .ok (.enter 25 args) w := enter_ok (c := Try.f25.body.getD .skip) Try.func25 (by decide) rfl
theorem cf26 : ∀ args w, (callFunc 26 args).run Try.prog w = .ok (.enter 26 args) w := enter_ok (c := Try.f26.body.getD .skip) Try.func26 (by decide) rfl
theorem cf27 : ∀ args w, (callFunc 27 args).run Try.prog w = .ok (.enter 27 args) w := enter_ok (c := Try.f27.body.getD .skip) Try.func27 (by decide) rfl
theorem cf28 : ∀ args w, (callFunc 28 args).run Try.prog w = .ok (.enter 28 args) w := enter_ok (c := Try.f28.body.getD .skip) Try.func28 (by decide) rfl
theorem cf29 : ∀ args w, (callFunc 29 args).run Try.prog w = .ok (.enter 29 args) w := enter_ok (c := Try.f29.body.getD .skip) Try.func29 (by decide) rfl
theorem cf30 : ∀ args w, (callFunc 30 args).run Try.prog w = .ok (.enter 30 args) w := enter_ok (c := Try.f30.body.getD .skip) Try.func30 (by decide) rfl
theorem cf31 : ∀ args w, (callFunc 31 args).run Try.prog w = .ok (.enter 31 args) w := enter_ok (c := Try.f31.body.getD .skip) Try.func31 (by decide) rfl
theorem cf32 : ∀ args w, (callFunc 32 args).run Try.prog w = .ok (.enter 32 args) w := enter_ok (c := Try.f32.body.getD .skip) Try.func32 (by decide) rfl
theorem cf33 : ∀ args w, (callFunc 33 args).run Try.prog w = .ok (.enter 33 args) w := enter_ok (c := Try.f33.body.getD .skip) Try.func33 (by decide) rfl
theorem cf34 : ∀ args w, (callFunc 34 args).run Try.prog w = .ok (.enter 34 args) w := enter_ok (c := Try.f34.body.getD .skip) Try.func34 (by decide) rfl
theorem cf35 : ∀ args w, (callFunc 35 args).run Try.prog w = .ok (.enter 35 args) w := enter_ok (c := Try.f35.body.getD .skip) Try.func35 (by decide) rfl
theorem cf36 : ∀ args w, (callFunc 36 args).run Try.prog w = .ok (.enter 36 args) w := enter_ok (c := Try.f36.body.getD .skip) Try.func36 (by decide) rfl
theorem cf37 : ∀ args w, (callFunc 37 args).run Try.prog w = .ok (.enter 37 args) w := enter_ok (c := Try.f37.body.getD .skip) Try.func37 (by decide) rfl
theorem cf38 : ∀ args w, (callFunc 38 args).run Try.prog w = .ok (.enter 38 args) w := enter_ok (c := Try.f38.body.getD .skip) Try.func38 (by decide) rfl
theorem cf39 : ∀ args w, (callFunc 39 args).run Try.prog w = .ok (.enter 39 args) w := enter_ok (c := Try.f39.body.getD .skip) Try.func39 (by decide) rfl
theorem cf40 : ∀ args w, (callFunc 40 args).run Try.prog w = .ok (.enter 40 args) w := enter_ok (c := Try.f40.body.getD .skip) Try.func40 (by decide) rfl
theorem cf41 : ∀ args w, (callFunc 41 args).run Try.prog w = .ok (.enter 41 args) w := enter_ok (c := Try.f41.body.getD .skip) Try.func41 (by decide) rfl
theorem cf42 : ∀ args w, (callFunc 42 args).run Try.prog w = .ok (.enter 42 args) w := enter_ok (c := Try.f42.body.getD .skip) Try.func42 (by decide) rfl
theorem cf43 : ∀ args w, (callFunc 43 args).run Try.prog w = .ok (.enter 43 args) w := enter_ok (c := Try.f43.body.getD .skip) Try.func43 (by decide) rfl
theorem cf44 : ∀ args w, (callFunc 44 args).run Try.prog w = .ok (.enter 44 args) w := enter_ok (c := Try.f44.body.getD .skip) Try.func44 (by decide) rfl
theorem cf45 : ∀ args w, (callFunc 45 args).run Try.prog w = .ok (.enter 45 args) w := enter_ok (c := Try.f45.body.getD .skip) Try.func45 (by decide) rfl
theorem cf46 : ∀ args w, (callFunc 46 args).run Try.prog w = .ok (.enter 46 args) w := enter_ok (c := Try.f46.body.getD .skip) Try.func46 (by decide) rfl
theorem cf47 : ∀ args w, (callFunc 47 args).run Try.prog w = .ok (.enter 47 args) w := enter_ok (c := Try.f47.body.getD .skip) Try.func47 (by decide) rfl
theorem cf48 : ∀ args w, (callFunc 48 args).run Try.prog w = .ok (.enter 48 args) w := enter_ok (c := Try.f48.body.getD .skip) Try.func48 (by decide) rfl
theorem cf49 : ∀ args w, (callFunc 49 args).run Try.prog w = .ok (.enter 49 args) w := enter_ok (c := Try.f49.body.getD .skip) Try.func49 (by decide) rfl
theorem cf50 : ∀ args w, (callFunc 50 args).run Try.prog w = .ok (.enter 50 args) w := enter_ok (c := Try.f50.body.getD .skip) Try.func50 (by decide) rfl
theorem cf51 : ∀ args w, (callFunc 51 args).run Try.prog w = .ok (.enter 51 args) w := enter_ok (c := Try.f51.body.getD .skip) Try.func51 (by decide) rfl
theorem cf52 : ∀ args w, (callFunc 52 args).run Try.prog w = .ok (.enter 52 args) w := enter_ok (c := Try.f52.body.getD .skip) Try.func52 (by decide) rfl
end Go.Proofs.Ythfiblbkkjcliaa
