/- Small facts of the seat's types. -/
import Derived.Test.YtlbpgnimpcflaaaE6
import Derived.Test.YtlbpgnimpcflaaaE5
namespace Go.Proofs.Ytlbpgnimpcflaaa
open Go.ChangeShapes Go.WideShapes Go.ChangeAt Go.RowKit
theorem sz0 : (Try.prog.info? 0).map (·.size) = some 1 := by kernel_rfl
theorem ce0 : Nat.blt 0 (Try.prog.cellsOf 0) = true := by kernel_rfl
theorem nf0 : ∃ i, Try.prog.info? 0 = some i := Option.isSome_iff_exists.1 (by kernel_rfl)
theorem sz1 : (Try.prog.info? 1).map (·.size) = some 1 := by kernel_rfl
theorem ce1 : Nat.blt 0 (Try.prog.cellsOf 1) = true := by kernel_rfl
theorem nf1 : ∃ i, Try.prog.info? 1 = some i := Option.isSome_iff_exists.1 (by kernel_rfl)
theorem sz2 : (Try.prog.info? 2).map (·.size) = some 1 := by kernel_rfl
theorem ce2 : Nat.blt 0 (Try.prog.cellsOf 2) = true := by kernel_rfl
theorem nf2 : ∃ i, Try.prog.info? 2 = some i := Option.isSome_iff_exists.1 (by kernel_rfl)
theorem zr2 : (Try.prog.info? 2).map (·.zero) = some (some (.int .i64 0)) := by kernel_rfl
theorem sz3 : (Try.prog.info? 3).map (·.size) = some 1 := by kernel_rfl
theorem ce3 : Nat.blt 0 (Try.prog.cellsOf 3) = true := by kernel_rfl
theorem nf3 : ∃ i, Try.prog.info? 3 = some i := Option.isSome_iff_exists.1 (by kernel_rfl)
theorem zr3 : (Try.prog.info? 3).map (·.zero) = some (some (.int .i64 0)) := by kernel_rfl
theorem sz4 : (Try.prog.info? 4).map (·.size) = some 1 := by kernel_rfl
theorem ce4 : Nat.blt 0 (Try.prog.cellsOf 4) = true := by kernel_rfl
theorem nf4 : ∃ i, Try.prog.info? 4 = some i := Option.isSome_iff_exists.1 (by kernel_rfl)
theorem zr4 : (Try.prog.info? 4).map (·.zero) = some (some (.bool false)) := by kernel_rfl
theorem sz5 : (Try.prog.info? 5).map (·.size) = some 1 := by kernel_rfl
theorem ce5 : Nat.blt 0 (Try.prog.cellsOf 5) = true := by kernel_rfl
theorem nf5 : ∃ i, Try.prog.info? 5 = some i := Option.isSome_iff_exists.1 (by kernel_rfl)
theorem zr5 : (Try.prog.info? 5).map (·.zero) = some (some (.int .u8 0)) := by kernel_rfl
theorem sz6 : (Try.prog.info? 6).map (·.size) = some 1 := by kernel_rfl
theorem ce6 : Nat.blt 0 (Try.prog.cellsOf 6) = true := by kernel_rfl
theorem nf6 : ∃ i, Try.prog.info? 6 = some i := Option.isSome_iff_exists.1 (by kernel_rfl)
theorem zr6 : (Try.prog.info? 6).map (·.zero) = some (some (.int .u8 0)) := by kernel_rfl
theorem sz7 : (Try.prog.info? 7).map (·.size) = some 4 := by kernel_rfl
theorem ce7 : Nat.blt 0 (Try.prog.cellsOf 7) = true := by kernel_rfl
theorem nf7 : ∃ i, Try.prog.info? 7 = some i := Option.isSome_iff_exists.1 (by kernel_rfl)
theorem zr7 : (Try.prog.info? 7).map (·.zero) = some (some (.agg [.int .i64 0, .int .i64 0, .bool false, .int .u8 0].toArray)) := by kernel_rfl
theorem st7 : StOf Try.prog 7 [(0, 1), (1, 1), (2, 1), (3, 1)] [.int .i64 0, .int .i64 0, .bool false, .int .u8 0] := ⟨_, Try.underlying7, by kernel_rfl, ⟨⟨rfl, by kernel_rfl⟩, ⟨rfl, by kernel_rfl⟩, ⟨rfl, by kernel_rfl⟩, ⟨rfl, by kernel_rfl⟩, trivial⟩⟩
theorem sz8 : (Try.prog.info? 8).map (·.size) = some 4 := by kernel_rfl
theorem ce8 : Nat.blt 0 (Try.prog.cellsOf 8) = true := by kernel_rfl
theorem nf8 : ∃ i, Try.prog.info? 8 = some i := Option.isSome_iff_exists.1 (by kernel_rfl)
theorem zr8 : (Try.prog.info? 8).map (·.zero) = some (some (.agg [.int .i64 0, .int .i64 0, .bool false, .int .u8 0].toArray)) := by kernel_rfl
theorem st8 : StOf Try.prog 8 [(0, 1), (1, 1), (2, 1), (3, 1)] [.int .i64 0, .int .i64 0, .bool false, .int .u8 0] := ⟨_, Try.underlying8, by kernel_rfl, ⟨⟨rfl, by kernel_rfl⟩, ⟨rfl, by kernel_rfl⟩, ⟨rfl, by kernel_rfl⟩, ⟨rfl, by kernel_rfl⟩, trivial⟩⟩
theorem sz9 : (Try.prog.info? 9).map (·.size) = some 1 := by kernel_rfl
theorem ce9 : Nat.blt 0 (Try.prog.cellsOf 9) = true := by kernel_rfl
theorem nf9 : ∃ i, Try.prog.info? 9 = some i := Option.isSome_iff_exists.1 (by kernel_rfl)
theorem zr9 : (Try.prog.info? 9).map (·.zero) = some (some (.string ⟨#[]⟩)) := by kernel_rfl
theorem sz10 : (Try.prog.info? 10).map (·.size) = some 1 := by kernel_rfl
theorem ce10 : Nat.blt 0 (Try.prog.cellsOf 10) = true := by kernel_rfl
theorem nf10 : ∃ i, Try.prog.info? 10 = some i := Option.isSome_iff_exists.1 (by kernel_rfl)
theorem zr10 : (Try.prog.info? 10).map (·.zero) = some (some (.string ⟨#[]⟩)) := by kernel_rfl
theorem sz11 : (Try.prog.info? 11).map (·.size) = some 1 := by kernel_rfl
theorem ce11 : Nat.blt 0 (Try.prog.cellsOf 11) = true := by kernel_rfl
theorem nf11 : ∃ i, Try.prog.info? 11 = some i := Option.isSome_iff_exists.1 (by kernel_rfl)
theorem zr11 : (Try.prog.info? 11).map (·.zero) = some (some (.string ⟨#[]⟩)) := by kernel_rfl
theorem sz12 : (Try.prog.info? 12).map (·.size) = some 1 := by kernel_rfl
theorem ce12 : Nat.blt 0 (Try.prog.cellsOf 12) = true := by kernel_rfl
theorem nf12 : ∃ i, Try.prog.info? 12 = some i := Option.isSome_iff_exists.1 (by kernel_rfl)
theorem zr12 : (Try.prog.info? 12).map (·.zero) = some (some (.int .u64 0)) := by kernel_rfl
theorem sz13 : (Try.prog.info? 13).map (·.size) = some 2 := by kernel_rfl
theorem ce13 : Nat.blt 0 (Try.prog.cellsOf 13) = true := by kernel_rfl
theorem nf13 : ∃ i, Try.prog.info? 13 = some i := Option.isSome_iff_exists.1 (by kernel_rfl)
theorem zr13 : (Try.prog.info? 13).map (·.zero) = some (some (.agg [.string ⟨#[]⟩, .int .u64 0].toArray)) := by kernel_rfl
theorem st13 : StOf Try.prog 13 [(0, 1), (1, 1)] [.string ⟨#[]⟩, .int .u64 0] := ⟨_, Try.underlying13, by kernel_rfl, ⟨⟨rfl, by kernel_rfl⟩, ⟨rfl, by kernel_rfl⟩, trivial⟩⟩
theorem sz14 : (Try.prog.info? 14).map (·.size) = some 2 := by kernel_rfl
theorem ce14 : Nat.blt 0 (Try.prog.cellsOf 14) = true := by kernel_rfl
theorem nf14 : ∃ i, Try.prog.info? 14 = some i := Option.isSome_iff_exists.1 (by kernel_rfl)
theorem zr14 : (Try.prog.info? 14).map (·.zero) = some (some (.agg [.string ⟨#[]⟩, .int .u64 0].toArray)) := by kernel_rfl
theorem st14 : StOf Try.prog 14 [(0, 1), (1, 1)] [.string ⟨#[]⟩, .int .u64 0] := ⟨_, Try.underlying14, by kernel_rfl, ⟨⟨rfl, by kernel_rfl⟩, ⟨rfl, by kernel_rfl⟩, trivial⟩⟩
theorem sz15 : (Try.prog.info? 15).map (·.size) = some 1 := by kernel_rfl
theorem ce15 : Nat.blt 0 (Try.prog.cellsOf 15) = true := by kernel_rfl
theorem nf15 : ∃ i, Try.prog.info? 15 = some i := Option.isSome_iff_exists.1 (by kernel_rfl)
theorem zr15 : (Try.prog.info? 15).map (·.zero) = some (some (.pointer none)) := by kernel_rfl
theorem sz16 : (Try.prog.info? 16).map (·.size) = some 1 := by kernel_rfl
theorem ce16 : Nat.blt 0 (Try.prog.cellsOf 16) = true := by kernel_rfl
theorem nf16 : ∃ i, Try.prog.info? 16 = some i := Option.isSome_iff_exists.1 (by kernel_rfl)
theorem zr16 : (Try.prog.info? 16).map (·.zero) = some (some (.pointer none)) := by kernel_rfl
theorem sz17 : (Try.prog.info? 17).map (·.size) = some 1 := by kernel_rfl
theorem ce17 : Nat.blt 0 (Try.prog.cellsOf 17) = true := by kernel_rfl
theorem nf17 : ∃ i, Try.prog.info? 17 = some i := Option.isSome_iff_exists.1 (by kernel_rfl)
theorem zr17 : (Try.prog.info? 17).map (·.zero) = some (some (.pointer none)) := by kernel_rfl
theorem sz18 : (Try.prog.info? 18).map (·.size) = some 1 := by kernel_rfl
theorem ce18 : Nat.blt 0 (Try.prog.cellsOf 18) = true := by kernel_rfl
theorem nf18 : ∃ i, Try.prog.info? 18 = some i := Option.isSome_iff_exists.1 (by kernel_rfl)
theorem zr18 : (Try.prog.info? 18).map (·.zero) = some (some (.agg [.pointer none].toArray)) := by kernel_rfl
theorem st18 : StOf Try.prog 18 [(0, 1)] [.pointer none] := ⟨_, Try.underlying18, by kernel_rfl, ⟨⟨rfl, by kernel_rfl⟩, trivial⟩⟩
theorem sz19 : (Try.prog.info? 19).map (·.size) = some 1 := by kernel_rfl
theorem ce19 : Nat.blt 0 (Try.prog.cellsOf 19) = true := by kernel_rfl
theorem nf19 : ∃ i, Try.prog.info? 19 = some i := Option.isSome_iff_exists.1 (by kernel_rfl)
theorem zr19 : (Try.prog.info? 19).map (·.zero) = some (some (.agg [.pointer none].toArray)) := by kernel_rfl
theorem st19 : StOf Try.prog 19 [(0, 1)] [.pointer none] := ⟨_, Try.underlying19, by kernel_rfl, ⟨⟨rfl, by kernel_rfl⟩, trivial⟩⟩
theorem sz20 : (Try.prog.info? 20).map (·.size) = some 1 := by kernel_rfl
theorem ce20 : Nat.blt 0 (Try.prog.cellsOf 20) = true := by kernel_rfl
theorem nf20 : ∃ i, Try.prog.info? 20 = some i := Option.isSome_iff_exists.1 (by kernel_rfl)
theorem sz21 : (Try.prog.info? 21).map (·.size) = some 1 := by kernel_rfl
theorem ce21 : Nat.blt 0 (Try.prog.cellsOf 21) = true := by kernel_rfl
theorem nf21 : ∃ i, Try.prog.info? 21 = some i := Option.isSome_iff_exists.1 (by kernel_rfl)
theorem zr21 : (Try.prog.info? 21).map (·.zero) = some (some (.int .i32 0)) := by kernel_rfl
theorem sz22 : (Try.prog.info? 22).map (·.size) = some 1 := by kernel_rfl
theorem ce22 : Nat.blt 0 (Try.prog.cellsOf 22) = true := by kernel_rfl
theorem nf22 : ∃ i, Try.prog.info? 22 = some i := Option.isSome_iff_exists.1 (by kernel_rfl)
theorem zr22 : (Try.prog.info? 22).map (·.zero) = some (some (.slice none 0 0)) := by kernel_rfl
theorem sz23 : (Try.prog.info? 23).map (·.size) = some 1 := by kernel_rfl
theorem ce23 : Nat.blt 0 (Try.prog.cellsOf 23) = true := by kernel_rfl
theorem nf23 : ∃ i, Try.prog.info? 23 = some i := Option.isSome_iff_exists.1 (by kernel_rfl)
theorem zr23 : (Try.prog.info? 23).map (·.zero) = some (some (.slice none 0 0)) := by kernel_rfl
theorem sz24 : (Try.prog.info? 24).map (·.size) = some 1 := by kernel_rfl
theorem ce24 : Nat.blt 0 (Try.prog.cellsOf 24) = true := by kernel_rfl
theorem nf24 : ∃ i, Try.prog.info? 24 = some i := Option.isSome_iff_exists.1 (by kernel_rfl)
theorem zr24 : (Try.prog.info? 24).map (·.zero) = some (some (.slice none 0 0)) := by kernel_rfl
theorem sz25 : (Try.prog.info? 25).map (·.size) = some 1 := by kernel_rfl
theorem ce25 : Nat.blt 0 (Try.prog.cellsOf 25) = true := by kernel_rfl
theorem nf25 : ∃ i, Try.prog.info? 25 = some i := Option.isSome_iff_exists.1 (by kernel_rfl)
theorem zr25 : (Try.prog.info? 25).map (·.zero) = some (some (.slice none 0 0)) := by kernel_rfl
theorem sz26 : (Try.prog.info? 26).map (·.size) = some 2 := by kernel_rfl
theorem ce26 : Nat.blt 0 (Try.prog.cellsOf 26) = true := by kernel_rfl
theorem nf26 : ∃ i, Try.prog.info? 26 = some i := Option.isSome_iff_exists.1 (by kernel_rfl)
theorem zr26 : (Try.prog.info? 26).map (·.zero) = some (some (.agg [.slice none 0 0, .int .i64 0].toArray)) := by kernel_rfl
theorem st26 : StOf Try.prog 26 [(0, 1), (1, 1)] [.slice none 0 0, .int .i64 0] := ⟨_, Try.underlying26, by kernel_rfl, ⟨⟨rfl, by kernel_rfl⟩, ⟨rfl, by kernel_rfl⟩, trivial⟩⟩
theorem sz27 : (Try.prog.info? 27).map (·.size) = some 2 := by kernel_rfl
theorem ce27 : Nat.blt 0 (Try.prog.cellsOf 27) = true := by kernel_rfl
theorem nf27 : ∃ i, Try.prog.info? 27 = some i := Option.isSome_iff_exists.1 (by kernel_rfl)
theorem zr27 : (Try.prog.info? 27).map (·.zero) = some (some (.agg [.slice none 0 0, .int .i64 0].toArray)) := by kernel_rfl
theorem st27 : StOf Try.prog 27 [(0, 1), (1, 1)] [.slice none 0 0, .int .i64 0] := ⟨_, Try.underlying27, by kernel_rfl, ⟨⟨rfl, by kernel_rfl⟩, ⟨rfl, by kernel_rfl⟩, trivial⟩⟩
theorem sz28 : (Try.prog.info? 28).map (·.size) = some 1 := by kernel_rfl
theorem ce28 : Nat.blt 0 (Try.prog.cellsOf 28) = true := by kernel_rfl
theorem nf28 : ∃ i, Try.prog.info? 28 = some i := Option.isSome_iff_exists.1 (by kernel_rfl)
theorem zr28 : (Try.prog.info? 28).map (·.zero) = some (some (.int .i64 0)) := by kernel_rfl
theorem sz29 : (Try.prog.info? 29).map (·.size) = some 1 := by kernel_rfl
theorem ce29 : Nat.blt 0 (Try.prog.cellsOf 29) = true := by kernel_rfl
theorem nf29 : ∃ i, Try.prog.info? 29 = some i := Option.isSome_iff_exists.1 (by kernel_rfl)
theorem sz30 : (Try.prog.info? 30).map (·.size) = some 1 := by kernel_rfl
theorem ce30 : Nat.blt 0 (Try.prog.cellsOf 30) = true := by kernel_rfl
theorem nf30 : ∃ i, Try.prog.info? 30 = some i := Option.isSome_iff_exists.1 (by kernel_rfl)
theorem sz31 : (Try.prog.info? 31).map (·.size) = some 1 := by kernel_rfl
theorem ce31 : Nat.blt 0 (Try.prog.cellsOf 31) = true := by kernel_rfl
theorem nf31 : ∃ i, Try.prog.info? 31 = some i := Option.isSome_iff_exists.1 (by kernel_rfl)
theorem sz32 : (Try.prog.info? 32).map (·.size) = some 1 := by kernel_rfl
theorem ce32 : Nat.blt 0 (Try.prog.cellsOf 32) = true := by kernel_rfl
theorem nf32 : ∃ i, Try.prog.info? 32 = some i := Option.isSome_iff_exists.1 (by kernel_rfl)
theorem sz33 : (Try.prog.info? 33).map (·.size) = some 1 := by kernel_rfl
theorem ce33 : Nat.blt 0 (Try.prog.cellsOf 33) = true := by kernel_rfl
theorem nf33 : ∃ i, Try.prog.info? 33 = some i := Option.isSome_iff_exists.1 (by kernel_rfl)
theorem sz34 : (Try.prog.info? 34).map (·.size) = some 1 := by kernel_rfl
theorem ce34 : Nat.blt 0 (Try.prog.cellsOf 34) = true := by kernel_rfl
theorem nf34 : ∃ i, Try.prog.info? 34 = some i := Option.isSome_iff_exists.1 (by kernel_rfl)
theorem sz35 : (Try.prog.info? 35).map (·.size) = some 1 := by kernel_rfl
theorem ce35 : Nat.blt 0 (Try.prog.cellsOf 35) = true := by kernel_rfl
theorem nf35 : ∃ i, Try.prog.info? 35 = some i := Option.isSome_iff_exists.1 (by kernel_rfl)
theorem sz36 : (Try.prog.info? 36).map (·.size) = some 1 := by kernel_rfl
theorem ce36 : Nat.blt 0 (Try.prog.cellsOf 36) = true := by kernel_rfl
theorem nf36 : ∃ i, Try.prog.info? 36 = some i := Option.isSome_iff_exists.1 (by kernel_rfl)
theorem sz37 : (Try.prog.info? 37).map (·.size) = some 1 := by kernel_rfl
theorem ce37 : Nat.blt 0 (Try.prog.cellsOf 37) = true := by kernel_rfl
theorem nf37 : ∃ i, Try.prog.info? 37 = some i := Option.isSome_iff_exists.1 (by kernel_rfl)
theorem zr37 : (Try.prog.info? 37).map (·.zero) = some (some (.slice none 0 0)) := by kernel_rfl
theorem sz38 : (Try.prog.info? 38).map (·.size) = some 1 := by kernel_rfl
theorem ce38 : Nat.blt 0 (Try.prog.cellsOf 38) = true := by kernel_rfl
theorem nf38 : ∃ i, Try.prog.info? 38 = some i := Option.isSome_iff_exists.1 (by kernel_rfl)
theorem sz39 : (Try.prog.info? 39).map (·.size) = some 1 := by kernel_rfl
theorem ce39 : Nat.blt 0 (Try.prog.cellsOf 39) = true := by kernel_rfl
theorem nf39 : ∃ i, Try.prog.info? 39 = some i := Option.isSome_iff_exists.1 (by kernel_rfl)
theorem sz40 : (Try.prog.info? 40).map (·.size) = some 1 := by kernel_rfl
theorem ce40 : Nat.blt 0 (Try.prog.cellsOf 40) = true := by kernel_rfl
theorem nf40 : ∃ i, Try.prog.info? 40 = some i := Option.isSome_iff_exists.1 (by kernel_rfl)
theorem sz41 : (Try.prog.info? 41).map (·.size) = some 1 := by kernel_rfl
theorem ce41 : Nat.blt 0 (Try.prog.cellsOf 41) = true := by kernel_rfl
theorem nf41 : ∃ i, Try.prog.info? 41 = some i := Option.isSome_iff_exists.1 (by kernel_rfl)
theorem sz42 : (Try.prog.info? 42).map (·.size) = some 1 := by kernel_rfl
theorem ce42 : Nat.blt 0 (Try.prog.cellsOf 42) = true := by kernel_rfl
theorem nf42 : ∃ i, Try.prog.info? 42 = some i := Option.isSome_iff_exists.1 (by kernel_rfl)
theorem sz43 : (Try.prog.info? 43).map (·.size) = some 1 := by kernel_rfl
theorem ce43 : Nat.blt 0 (Try.prog.cellsOf 43) = true := by kernel_rfl
theorem nf43 : ∃ i, Try.prog.info? 43 = some i := Option.isSome_iff_exists.1 (by kernel_rfl)
theorem sz44 : (Try.prog.info? 44).map (·.size) = some 1 := by kernel_rfl
theorem ce44 : Nat.blt 0 (Try.prog.cellsOf 44) = true := by kernel_rfl
theorem nf44 : ∃ i, Try.prog.info? 44 = some i := Option.isSome_iff_exists.1 (by kernel_rfl)
theorem zr44 : (Try.prog.info? 44).map (·.zero) = some (some (.slice none 0 0)) := by kernel_rfl
theorem sz45 : (Try.prog.info? 45).map (·.size) = some 1 := by kernel_rfl
theorem ce45 : Nat.blt 0 (Try.prog.cellsOf 45) = true := by kernel_rfl
theorem nf45 : ∃ i, Try.prog.info? 45 = some i := Option.isSome_iff_exists.1 (by kernel_rfl)
theorem sz46 : (Try.prog.info? 46).map (·.size) = some 1 := by kernel_rfl
theorem ce46 : Nat.blt 0 (Try.prog.cellsOf 46) = true := by kernel_rfl
theorem nf46 : ∃ i, Try.prog.info? 46 = some i := Option.isSome_iff_exists.1 (by kernel_rfl)
theorem sz47 : (Try.prog.info? 47).map (·.size) = some 1 := by kernel_rfl
theorem ce47 : Nat.blt 0 (Try.prog.cellsOf 47) = true := by kernel_rfl
theorem nf47 : ∃ i, Try.prog.info? 47 = some i := Option.isSome_iff_exists.1 (by kernel_rfl)
theorem sz48 : (Try.prog.info? 48).map (·.size) = some 1 := by kernel_rfl
theorem ce48 : Nat.blt 0 (Try.prog.cellsOf 48) = true := by kernel_rfl
theorem nf48 : ∃ i, Try.prog.info? 48 = some i := Option.isSome_iff_exists.1 (by kernel_rfl)
theorem sz49 : (Try.prog.info? 49).map (·.size) = some 1 := by kernel_rfl
theorem ce49 : Nat.blt 0 (Try.prog.cellsOf 49) = true := by kernel_rfl
theorem nf49 : ∃ i, Try.prog.info? 49 = some i := Option.isSome_iff_exists.1 (by kernel_rfl)
theorem sz50 : (Try.prog.info? 50).map (·.size) = some 1 := by kernel_rfl
theorem ce50 : Nat.blt 0 (Try.prog.cellsOf 50) = true := by kernel_rfl
theorem nf50 : ∃ i, Try.prog.info? 50 = some i := Option.isSome_iff_exists.1 (by kernel_rfl)
theorem sz51 : (Try.prog.info? 51).map (·.size) = some 1 := by kernel_rfl
theorem ce51 : Nat.blt 0 (Try.prog.cellsOf 51) = true := by kernel_rfl
theorem nf51 : ∃ i, Try.prog.info? 51 = some i := Option.isSome_iff_exists.1 (by kernel_rfl)
theorem sz52 : (Try.prog.info? 52).map (·.size) = some 1 := by kernel_rfl
theorem ce52 : Nat.blt 0 (Try.prog.cellsOf 52) = true := by kernel_rfl
theorem nf52 : ∃ i, Try.prog.info? 52 = some i := Option.isSome_iff_exists.1 (by kernel_rfl)
theorem sz53 : (Try.prog.info? 53).map (·.size) = some 1 := by kernel_rfl
theorem ce53 : Nat.blt 0 (Try.prog.cellsOf 53) = true := by kernel_rfl
theorem nf53 : ∃ i, Try.prog.info? 53 = some i := Option.isSome_iff_exists.1 (by kernel_rfl)
theorem sz54 : (Try.prog.info? 54).map (·.size) = some 1 := by kernel_rfl
theorem ce54 : Nat.blt 0 (Try.prog.cellsOf 54) = true := by kernel_rfl
theorem nf54 : ∃ i, Try.prog.info? 54 = some i := Option.isSome_iff_exists.1 (by kernel_rfl)
theorem zr54 : (Try.prog.info? 54).map (·.zero) = some (some (.slice none 0 0)) := by kernel_rfl
theorem sz55 : (Try.prog.info? 55).map (·.size) = some 1 := by kernel_rfl
theorem ce55 : Nat.blt 0 (Try.prog.cellsOf 55) = true := by kernel_rfl
theorem nf55 : ∃ i, Try.prog.info? 55 = some i := Option.isSome_iff_exists.1 (by kernel_rfl)
theorem sz56 : (Try.prog.info? 56).map (·.size) = some 1 := by kernel_rfl
theorem ce56 : Nat.blt 0 (Try.prog.cellsOf 56) = true := by kernel_rfl
theorem nf56 : ∃ i, Try.prog.info? 56 = some i := Option.isSome_iff_exists.1 (by kernel_rfl)
theorem sz57 : (Try.prog.info? 57).map (·.size) = some 1 := by kernel_rfl
theorem ce57 : Nat.blt 0 (Try.prog.cellsOf 57) = true := by kernel_rfl
theorem nf57 : ∃ i, Try.prog.info? 57 = some i := Option.isSome_iff_exists.1 (by kernel_rfl)
theorem sz58 : (Try.prog.info? 58).map (·.size) = some 1 := by kernel_rfl
theorem ce58 : Nat.blt 0 (Try.prog.cellsOf 58) = true := by kernel_rfl
theorem nf58 : ∃ i, Try.prog.info? 58 = some i := Option.isSome_iff_exists.1 (by kernel_rfl)
theorem sz59 : (Try.prog.info? 59).map (·.size) = some 1 := by kernel_rfl
theorem ce59 : Nat.blt 0 (Try.prog.cellsOf 59) = true := by kernel_rfl
theorem nf59 : ∃ i, Try.prog.info? 59 = some i := Option.isSome_iff_exists.1 (by kernel_rfl)
theorem sz60 : (Try.prog.info? 60).map (·.size) = some 1 := by kernel_rfl
theorem ce60 : Nat.blt 0 (Try.prog.cellsOf 60) = true := by kernel_rfl
theorem nf60 : ∃ i, Try.prog.info? 60 = some i := Option.isSome_iff_exists.1 (by kernel_rfl)
theorem sz61 : (Try.prog.info? 61).map (·.size) = some 1 := by kernel_rfl
theorem ce61 : Nat.blt 0 (Try.prog.cellsOf 61) = true := by kernel_rfl
theorem nf61 : ∃ i, Try.prog.info? 61 = some i := Option.isSome_iff_exists.1 (by kernel_rfl)
theorem sz62 : (Try.prog.info? 62).map (·.size) = some 1 := by kernel_rfl
theorem ce62 : Nat.blt 0 (Try.prog.cellsOf 62) = true := by kernel_rfl
theorem nf62 : ∃ i, Try.prog.info? 62 = some i := Option.isSome_iff_exists.1 (by kernel_rfl)
theorem sz63 : (Try.prog.info? 63).map (·.size) = some 1 := by kernel_rfl
theorem ce63 : Nat.blt 0 (Try.prog.cellsOf 63) = true := by kernel_rfl
theorem nf63 : ∃ i, Try.prog.info? 63 = some i := Option.isSome_iff_exists.1 (by kernel_rfl)
theorem sz64 : (Try.prog.info? 64).map (·.size) = some 1 := by kernel_rfl
theorem ce64 : Nat.blt 0 (Try.prog.cellsOf 64) = true := by kernel_rfl
theorem nf64 : ∃ i, Try.prog.info? 64 = some i := Option.isSome_iff_exists.1 (by kernel_rfl)
theorem sz65 : (Try.prog.info? 65).map (·.size) = some 1 := by kernel_rfl
theorem ce65 : Nat.blt 0 (Try.prog.cellsOf 65) = true := by kernel_rfl
theorem nf65 : ∃ i, Try.prog.info? 65 = some i := Option.isSome_iff_exists.1 (by kernel_rfl)
theorem sz66 : (Try.prog.info? 66).map (·.size) = some 1 := by kernel_rfl
theorem ce66 : Nat.blt 0 (Try.prog.cellsOf 66) = true := by kernel_rfl
theorem nf66 : ∃ i, Try.prog.info? 66 = some i := Option.isSome_iff_exists.1 (by kernel_rfl)
theorem sz67 : (Try.prog.info? 67).map (·.size) = some 1 := by kernel_rfl
theorem ce67 : Nat.blt 0 (Try.prog.cellsOf 67) = true := by kernel_rfl
theorem nf67 : ∃ i, Try.prog.info? 67 = some i := Option.isSome_iff_exists.1 (by kernel_rfl)
theorem sz68 : (Try.prog.info? 68).map (·.size) = some 1 := by kernel_rfl
theorem ce68 : Nat.blt 0 (Try.prog.cellsOf 68) = true := by kernel_rfl
theorem nf68 : ∃ i, Try.prog.info? 68 = some i := Option.isSome_iff_exists.1 (by kernel_rfl)
theorem zr68 : (Try.prog.info? 68).map (·.zero) = some (some (.slice none 0 0)) := by kernel_rfl
theorem sz69 : (Try.prog.info? 69).map (·.size) = some 2 := by kernel_rfl
theorem ce69 : Nat.blt 0 (Try.prog.cellsOf 69) = true := by kernel_rfl
theorem nf69 : ∃ i, Try.prog.info? 69 = some i := Option.isSome_iff_exists.1 (by kernel_rfl)
theorem zr69 : (Try.prog.info? 69).map (·.zero) = some (some (.agg [.int .i64 0, .bool false].toArray)) := by kernel_rfl
theorem st69 : StOf Try.prog 69 [(0, 1), (1, 1)] [.int .i64 0, .bool false] := ⟨_, Try.underlying69, by kernel_rfl, ⟨⟨rfl, by kernel_rfl⟩, ⟨rfl, by kernel_rfl⟩, trivial⟩⟩
theorem sz70 : (Try.prog.info? 70).map (·.size) = some 2 := by kernel_rfl
theorem ce70 : Nat.blt 0 (Try.prog.cellsOf 70) = true := by kernel_rfl
theorem nf70 : ∃ i, Try.prog.info? 70 = some i := Option.isSome_iff_exists.1 (by kernel_rfl)
theorem zr70 : (Try.prog.info? 70).map (·.zero) = some (some (.agg [.int .i64 0, .bool false].toArray)) := by kernel_rfl
theorem st70 : StOf Try.prog 70 [(0, 1), (1, 1)] [.int .i64 0, .bool false] := ⟨_, Try.underlying70, by kernel_rfl, ⟨⟨rfl, by kernel_rfl⟩, ⟨rfl, by kernel_rfl⟩, trivial⟩⟩
theorem sz71 : (Try.prog.info? 71).map (·.size) = some 2 := by kernel_rfl
theorem ce71 : Nat.blt 0 (Try.prog.cellsOf 71) = true := by kernel_rfl
theorem nf71 : ∃ i, Try.prog.info? 71 = some i := Option.isSome_iff_exists.1 (by kernel_rfl)
theorem zr71 : (Try.prog.info? 71).map (·.zero) = some (some (.agg [.int .i64 0, .int .i64 0].toArray)) := by kernel_rfl
theorem sz72 : (Try.prog.info? 72).map (·.size) = some 5 := by kernel_rfl
theorem ce72 : Nat.blt 0 (Try.prog.cellsOf 72) = true := by kernel_rfl
theorem nf72 : ∃ i, Try.prog.info? 72 = some i := Option.isSome_iff_exists.1 (by kernel_rfl)
theorem zr72 : (Try.prog.info? 72).map (·.zero) = some (some (.agg [.int .i64 0, .int .i64 0, .int .i64 0, .int .i64 0, .bool false].toArray)) := by kernel_rfl
theorem st72 : StOf Try.prog 72 [(0, 1), (1, 1), (2, 1), (3, 1), (4, 1)] [.int .i64 0, .int .i64 0, .int .i64 0, .int .i64 0, .bool false] := ⟨_, Try.underlying72, by kernel_rfl, ⟨⟨rfl, by kernel_rfl⟩, ⟨rfl, by kernel_rfl⟩, ⟨rfl, by kernel_rfl⟩, ⟨rfl, by kernel_rfl⟩, ⟨rfl, by kernel_rfl⟩, trivial⟩⟩
theorem sz73 : (Try.prog.info? 73).map (·.size) = some 5 := by kernel_rfl
theorem ce73 : Nat.blt 0 (Try.prog.cellsOf 73) = true := by kernel_rfl
theorem nf73 : ∃ i, Try.prog.info? 73 = some i := Option.isSome_iff_exists.1 (by kernel_rfl)
theorem zr73 : (Try.prog.info? 73).map (·.zero) = some (some (.agg [.int .i64 0, .int .i64 0, .int .i64 0, .int .i64 0, .bool false].toArray)) := by kernel_rfl
theorem st73 : StOf Try.prog 73 [(0, 1), (1, 1), (2, 1), (3, 1), (4, 1)] [.int .i64 0, .int .i64 0, .int .i64 0, .int .i64 0, .bool false] := ⟨_, Try.underlying73, by kernel_rfl, ⟨⟨rfl, by kernel_rfl⟩, ⟨rfl, by kernel_rfl⟩, ⟨rfl, by kernel_rfl⟩, ⟨rfl, by kernel_rfl⟩, ⟨rfl, by kernel_rfl⟩, trivial⟩⟩
theorem sz74 : (Try.prog.info? 74).map (·.size) = some 1 := by kernel_rfl
theorem ce74 : Nat.blt 0 (Try.prog.cellsOf 74) = true := by kernel_rfl
theorem nf74 : ∃ i, Try.prog.info? 74 = some i := Option.isSome_iff_exists.1 (by kernel_rfl)
theorem sz75 : (Try.prog.info? 75).map (·.size) = some 1 := by kernel_rfl
theorem ce75 : Nat.blt 0 (Try.prog.cellsOf 75) = true := by kernel_rfl
theorem nf75 : ∃ i, Try.prog.info? 75 = some i := Option.isSome_iff_exists.1 (by kernel_rfl)
theorem zr75 : (Try.prog.info? 75).map (·.zero) = some (some (.pointer none)) := by kernel_rfl
theorem sz76 : (Try.prog.info? 76).map (·.size) = some 1 := by kernel_rfl
theorem ce76 : Nat.blt 0 (Try.prog.cellsOf 76) = true := by kernel_rfl
theorem nf76 : ∃ i, Try.prog.info? 76 = some i := Option.isSome_iff_exists.1 (by kernel_rfl)
theorem sz77 : (Try.prog.info? 77).map (·.size) = some 1 := by kernel_rfl
theorem ce77 : Nat.blt 0 (Try.prog.cellsOf 77) = true := by kernel_rfl
theorem nf77 : ∃ i, Try.prog.info? 77 = some i := Option.isSome_iff_exists.1 (by kernel_rfl)
theorem sz78 : (Try.prog.info? 78).map (·.size) = some 1 := by kernel_rfl
theorem ce78 : Nat.blt 0 (Try.prog.cellsOf 78) = true := by kernel_rfl
theorem nf78 : ∃ i, Try.prog.info? 78 = some i := Option.isSome_iff_exists.1 (by kernel_rfl)
theorem sz79 : (Try.prog.info? 79).map (·.size) = some 1 := by kernel_rfl
theorem ce79 : Nat.blt 0 (Try.prog.cellsOf 79) = true := by kernel_rfl
theorem nf79 : ∃ i, Try.prog.info? 79 = some i := Option.isSome_iff_exists.1 (by kernel_rfl)
theorem zr79 : (Try.prog.info? 79).map (·.zero) = some (some (.slice none 0 0)) := by kernel_rfl
theorem sz80 : (Try.prog.info? 80).map (·.size) = some 4 := by kernel_rfl
theorem ce80 : Nat.blt 0 (Try.prog.cellsOf 80) = true := by kernel_rfl
theorem nf80 : ∃ i, Try.prog.info? 80 = some i := Option.isSome_iff_exists.1 (by kernel_rfl)
theorem zr80 : (Try.prog.info? 80).map (·.zero) = some (some (.agg [.slice none 0 0, .int .i64 0, .slice none 0 0, .slice none 0 0].toArray)) := by kernel_rfl
theorem st80 : StOf Try.prog 80 [(0, 2), (2, 1), (3, 1)] [.slice none 0 0, .int .i64 0, .slice none 0 0, .slice none 0 0] := ⟨_, Try.underlying80, by kernel_rfl, ⟨⟨rfl, by kernel_rfl⟩, ⟨rfl, by kernel_rfl⟩, ⟨rfl, by kernel_rfl⟩, trivial⟩⟩
theorem sz81 : (Try.prog.info? 81).map (·.size) = some 4 := by kernel_rfl
theorem ce81 : Nat.blt 0 (Try.prog.cellsOf 81) = true := by kernel_rfl
theorem nf81 : ∃ i, Try.prog.info? 81 = some i := Option.isSome_iff_exists.1 (by kernel_rfl)
theorem zr81 : (Try.prog.info? 81).map (·.zero) = some (some (.agg [.slice none 0 0, .int .i64 0, .slice none 0 0, .slice none 0 0].toArray)) := by kernel_rfl
theorem st81 : StOf Try.prog 81 [(0, 2), (2, 1), (3, 1)] [.slice none 0 0, .int .i64 0, .slice none 0 0, .slice none 0 0] := ⟨_, Try.underlying81, by kernel_rfl, ⟨⟨rfl, by kernel_rfl⟩, ⟨rfl, by kernel_rfl⟩, ⟨rfl, by kernel_rfl⟩, trivial⟩⟩
theorem sz82 : (Try.prog.info? 82).map (·.size) = some 1 := by kernel_rfl
theorem ce82 : Nat.blt 0 (Try.prog.cellsOf 82) = true := by kernel_rfl
theorem nf82 : ∃ i, Try.prog.info? 82 = some i := Option.isSome_iff_exists.1 (by kernel_rfl)
theorem sz83 : (Try.prog.info? 83).map (·.size) = some 2 := by kernel_rfl
theorem ce83 : Nat.blt 0 (Try.prog.cellsOf 83) = true := by kernel_rfl
theorem nf83 : ∃ i, Try.prog.info? 83 = some i := Option.isSome_iff_exists.1 (by kernel_rfl)
theorem zr83 : (Try.prog.info? 83).map (·.zero) = some (some (.agg [.int .i64 0, .int .i64 0].toArray)) := by kernel_rfl
theorem st83 : StOf Try.prog 83 [(0, 1), (1, 1)] [.int .i64 0, .int .i64 0] := ⟨_, Try.underlying83, by kernel_rfl, ⟨⟨rfl, by kernel_rfl⟩, ⟨rfl, by kernel_rfl⟩, trivial⟩⟩
theorem sz84 : (Try.prog.info? 84).map (·.size) = some 2 := by kernel_rfl
theorem ce84 : Nat.blt 0 (Try.prog.cellsOf 84) = true := by kernel_rfl
theorem nf84 : ∃ i, Try.prog.info? 84 = some i := Option.isSome_iff_exists.1 (by kernel_rfl)
theorem zr84 : (Try.prog.info? 84).map (·.zero) = some (some (.agg [.int .i64 0, .int .i64 0].toArray)) := by kernel_rfl
theorem st84 : StOf Try.prog 84 [(0, 1), (1, 1)] [.int .i64 0, .int .i64 0] := ⟨_, Try.underlying84, by kernel_rfl, ⟨⟨rfl, by kernel_rfl⟩, ⟨rfl, by kernel_rfl⟩, trivial⟩⟩
theorem sz85 : (Try.prog.info? 85).map (·.size) = some 1 := by kernel_rfl
theorem ce85 : Nat.blt 0 (Try.prog.cellsOf 85) = true := by kernel_rfl
theorem nf85 : ∃ i, Try.prog.info? 85 = some i := Option.isSome_iff_exists.1 (by kernel_rfl)
theorem sz86 : (Try.prog.info? 86).map (·.size) = some 1 := by kernel_rfl
theorem ce86 : Nat.blt 0 (Try.prog.cellsOf 86) = true := by kernel_rfl
theorem nf86 : ∃ i, Try.prog.info? 86 = some i := Option.isSome_iff_exists.1 (by kernel_rfl)
theorem zr86 : (Try.prog.info? 86).map (·.zero) = some (some (.pointer none)) := by kernel_rfl
theorem sz87 : (Try.prog.info? 87).map (·.size) = some 2 := by kernel_rfl
theorem ce87 : Nat.blt 0 (Try.prog.cellsOf 87) = true := by kernel_rfl
theorem nf87 : ∃ i, Try.prog.info? 87 = some i := Option.isSome_iff_exists.1 (by kernel_rfl)
theorem zr87 : (Try.prog.info? 87).map (·.zero) = some (some (.agg [.int .i64 0, .int .i64 0].toArray)) := by kernel_rfl
theorem st87 : StOf Try.prog 87 [(0, 1), (1, 1)] [.int .i64 0, .int .i64 0] := ⟨_, Try.underlying87, by kernel_rfl, ⟨⟨rfl, by kernel_rfl⟩, ⟨rfl, by kernel_rfl⟩, trivial⟩⟩
theorem sz88 : (Try.prog.info? 88).map (·.size) = some 2 := by kernel_rfl
theorem ce88 : Nat.blt 0 (Try.prog.cellsOf 88) = true := by kernel_rfl
theorem nf88 : ∃ i, Try.prog.info? 88 = some i := Option.isSome_iff_exists.1 (by kernel_rfl)
theorem zr88 : (Try.prog.info? 88).map (·.zero) = some (some (.agg [.int .i64 0, .int .i64 0].toArray)) := by kernel_rfl
theorem st88 : StOf Try.prog 88 [(0, 1), (1, 1)] [.int .i64 0, .int .i64 0] := ⟨_, Try.underlying88, by kernel_rfl, ⟨⟨rfl, by kernel_rfl⟩, ⟨rfl, by kernel_rfl⟩, trivial⟩⟩
theorem sz89 : (Try.prog.info? 89).map (·.size) = some 1 := by kernel_rfl
theorem ce89 : Nat.blt 0 (Try.prog.cellsOf 89) = true := by kernel_rfl
theorem nf89 : ∃ i, Try.prog.info? 89 = some i := Option.isSome_iff_exists.1 (by kernel_rfl)
theorem sz90 : (Try.prog.info? 90).map (·.size) = some 1 := by kernel_rfl
theorem ce90 : Nat.blt 0 (Try.prog.cellsOf 90) = true := by kernel_rfl
theorem nf90 : ∃ i, Try.prog.info? 90 = some i := Option.isSome_iff_exists.1 (by kernel_rfl)
theorem sz91 : (Try.prog.info? 91).map (·.size) = some 1 := by kernel_rfl
theorem ce91 : Nat.blt 0 (Try.prog.cellsOf 91) = true := by kernel_rfl
theorem nf91 : ∃ i, Try.prog.info? 91 = some i := Option.isSome_iff_exists.1 (by kernel_rfl)
theorem sz92 : (Try.prog.info? 92).map (·.size) = some 1 := by kernel_rfl
theorem ce92 : Nat.blt 0 (Try.prog.cellsOf 92) = true := by kernel_rfl
theorem nf92 : ∃ i, Try.prog.info? 92 = some i := Option.isSome_iff_exists.1 (by kernel_rfl)
theorem sz93 : (Try.prog.info? 93).map (·.size) = some 1 := by kernel_rfl
theorem ce93 : Nat.blt 0 (Try.prog.cellsOf 93) = true := by kernel_rfl
theorem nf93 : ∃ i, Try.prog.info? 93 = some i := Option.isSome_iff_exists.1 (by kernel_rfl)
theorem sz94 : (Try.prog.info? 94).map (·.size) = some 1 := by kernel_rfl
theorem ce94 : Nat.blt 0 (Try.prog.cellsOf 94) = true := by kernel_rfl
theorem nf94 : ∃ i, Try.prog.info? 94 = some i := Option.isSome_iff_exists.1 (by kernel_rfl)
theorem sz95 : (Try.prog.info? 95).map (·.size) = some 1 := by kernel_rfl
theorem ce95 : Nat.blt 0 (Try.prog.cellsOf 95) = true := by kernel_rfl
theorem nf95 : ∃ i, Try.prog.info? 95 = some i := Option.isSome_iff_exists.1 (by kernel_rfl)
theorem sz96 : (Try.prog.info? 96).map (·.size) = some 1 := by kernel_rfl
theorem ce96 : Nat.blt 0 (Try.prog.cellsOf 96) = true := by kernel_rfl
theorem nf96 : ∃ i, Try.prog.info? 96 = some i := Option.isSome_iff_exists.1 (by kernel_rfl)
theorem sz97 : (Try.prog.info? 97).map (·.size) = some 1 := by kernel_rfl
theorem ce97 : Nat.blt 0 (Try.prog.cellsOf 97) = true := by kernel_rfl
theorem nf97 : ∃ i, Try.prog.info? 97 = some i := Option.isSome_iff_exists.1 (by kernel_rfl)
theorem sz98 : (Try.prog.info? 98).map (·.size) = some 1 := by kernel_rfl
theorem ce98 : Nat.blt 0 (Try.prog.cellsOf 98) = true := by kernel_rfl
theorem nf98 : ∃ i, Try.prog.info? 98 = some i := Option.isSome_iff_exists.1 (by kernel_rfl)
theorem sz99 : (Try.prog.info? 99).map (·.size) = some 1 := by kernel_rfl
theorem ce99 : Nat.blt 0 (Try.prog.cellsOf 99) = true := by kernel_rfl
theorem nf99 : ∃ i, Try.prog.info? 99 = some i := Option.isSome_iff_exists.1 (by kernel_rfl)
theorem sz100 : (Try.prog.info? 100).map (·.size) = some 1 := by kernel_rfl
theorem ce100 : Nat.blt 0 (Try.prog.cellsOf 100) = true := by kernel_rfl
theorem nf100 : ∃ i, Try.prog.info? 100 = some i := Option.isSome_iff_exists.1 (by kernel_rfl)
theorem zr100 : (Try.prog.info? 100).map (·.zero) = some (some (.slice none 0 0)) := by kernel_rfl
theorem sz101 : (Try.prog.info? 101).map (·.size) = some 2 := by kernel_rfl
theorem ce101 : Nat.blt 0 (Try.prog.cellsOf 101) = true := by kernel_rfl
theorem nf101 : ∃ i, Try.prog.info? 101 = some i := Option.isSome_iff_exists.1 (by kernel_rfl)
theorem zr101 : (Try.prog.info? 101).map (·.zero) = some (some (.agg [.int .i64 0, .bool false].toArray)) := by kernel_rfl
theorem st101 : StOf Try.prog 101 [(0, 1), (1, 1)] [.int .i64 0, .bool false] := ⟨_, Try.underlying101, by kernel_rfl, ⟨⟨rfl, by kernel_rfl⟩, ⟨rfl, by kernel_rfl⟩, trivial⟩⟩
theorem sz102 : (Try.prog.info? 102).map (·.size) = some 2 := by kernel_rfl
theorem ce102 : Nat.blt 0 (Try.prog.cellsOf 102) = true := by kernel_rfl
theorem nf102 : ∃ i, Try.prog.info? 102 = some i := Option.isSome_iff_exists.1 (by kernel_rfl)
theorem zr102 : (Try.prog.info? 102).map (·.zero) = some (some (.agg [.int .i64 0, .bool false].toArray)) := by kernel_rfl
theorem st102 : StOf Try.prog 102 [(0, 1), (1, 1)] [.int .i64 0, .bool false] := ⟨_, Try.underlying102, by kernel_rfl, ⟨⟨rfl, by kernel_rfl⟩, ⟨rfl, by kernel_rfl⟩, trivial⟩⟩
theorem sz103 : (Try.prog.info? 103).map (·.size) = some 1 := by kernel_rfl
theorem ce103 : Nat.blt 0 (Try.prog.cellsOf 103) = true := by kernel_rfl
theorem nf103 : ∃ i, Try.prog.info? 103 = some i := Option.isSome_iff_exists.1 (by kernel_rfl)
theorem sz104 : (Try.prog.info? 104).map (·.size) = some 1 := by kernel_rfl
theorem ce104 : Nat.blt 0 (Try.prog.cellsOf 104) = true := by kernel_rfl
theorem nf104 : ∃ i, Try.prog.info? 104 = some i := Option.isSome_iff_exists.1 (by kernel_rfl)
theorem sz105 : (Try.prog.info? 105).map (·.size) = some 1 := by kernel_rfl
theorem ce105 : Nat.blt 0 (Try.prog.cellsOf 105) = true := by kernel_rfl
theorem nf105 : ∃ i, Try.prog.info? 105 = some i := Option.isSome_iff_exists.1 (by kernel_rfl)
theorem sz106 : (Try.prog.info? 106).map (·.size) = some 1 := by kernel_rfl
theorem ce106 : Nat.blt 0 (Try.prog.cellsOf 106) = true := by kernel_rfl
theorem nf106 : ∃ i, Try.prog.info? 106 = some i := Option.isSome_iff_exists.1 (by kernel_rfl)
theorem sz107 : (Try.prog.info? 107).map (·.size) = some 1 := by kernel_rfl
theorem ce107 : Nat.blt 0 (Try.prog.cellsOf 107) = true := by kernel_rfl
theorem nf107 : ∃ i, Try.prog.info? 107 = some i := Option.isSome_iff_exists.1 (by kernel_rfl)
theorem sz108 : (Try.prog.info? 108).map (·.size) = some 1 := by kernel_rfl
theorem ce108 : Nat.blt 0 (Try.prog.cellsOf 108) = true := by kernel_rfl
theorem nf108 : ∃ i, Try.prog.info? 108 = some i := Option.isSome_iff_exists.1 (by kernel_rfl)
theorem sz109 : (Try.prog.info? 109).map (·.size) = some 1 := by kernel_rfl
theorem ce109 : Nat.blt 0 (Try.prog.cellsOf 109) = true := by kernel_rfl
theorem nf109 : ∃ i, Try.prog.info? 109 = some i := Option.isSome_iff_exists.1 (by kernel_rfl)
theorem sz110 : (Try.prog.info? 110).map (·.size) = some 1 := by kernel_rfl
theorem ce110 : Nat.blt 0 (Try.prog.cellsOf 110) = true := by kernel_rfl
theorem nf110 : ∃ i, Try.prog.info? 110 = some i := Option.isSome_iff_exists.1 (by kernel_rfl)
theorem sz111 : (Try.prog.info? 111).map (·.size) = some 1 := by kernel_rfl
theorem ce111 : Nat.blt 0 (Try.prog.cellsOf 111) = true := by kernel_rfl
theorem nf111 : ∃ i, Try.prog.info? 111 = some i := Option.isSome_iff_exists.1 (by kernel_rfl)
theorem sz112 : (Try.prog.info? 112).map (·.size) = some 1 := by kernel_rfl
theorem ce112 : Nat.blt 0 (Try.prog.cellsOf 112) = true := by kernel_rfl
theorem nf112 : ∃ i, Try.prog.info? 112 = some i := Option.isSome_iff_exists.1 (by kernel_rfl)
theorem sz113 : (Try.prog.info? 113).map (·.size) = some 1 := by kernel_rfl
theorem ce113 : Nat.blt 0 (Try.prog.cellsOf 113) = true := by kernel_rfl
theorem nf113 : ∃ i, Try.prog.info? 113 = some i := Option.isSome_iff_exists.1 (by kernel_rfl)
theorem sz114 : (Try.prog.info? 114).map (·.size) = some 1 := by kernel_rfl
theorem ce114 : Nat.blt 0 (Try.prog.cellsOf 114) = true := by kernel_rfl
theorem nf114 : ∃ i, Try.prog.info? 114 = some i := Option.isSome_iff_exists.1 (by kernel_rfl)
theorem zr114 : (Try.prog.info? 114).map (·.zero) = some (some (.pointer none)) := by kernel_rfl
theorem sz115 : (Try.prog.info? 115).map (·.size) = some 4 := by kernel_rfl
theorem ce115 : Nat.blt 0 (Try.prog.cellsOf 115) = true := by kernel_rfl
theorem nf115 : ∃ i, Try.prog.info? 115 = some i := Option.isSome_iff_exists.1 (by kernel_rfl)
theorem zr115 : (Try.prog.info? 115).map (·.zero) = some (some (.agg [.pointer none, .pointer none, .pointer none, .pointer none].toArray)) := by kernel_rfl
theorem sz116 : (Try.prog.info? 116).map (·.size) = some 1 := by kernel_rfl
theorem ce116 : Nat.blt 0 (Try.prog.cellsOf 116) = true := by kernel_rfl
theorem nf116 : ∃ i, Try.prog.info? 116 = some i := Option.isSome_iff_exists.1 (by kernel_rfl)
theorem sz117 : (Try.prog.info? 117).map (·.size) = some 1 := by kernel_rfl
theorem ce117 : Nat.blt 0 (Try.prog.cellsOf 117) = true := by kernel_rfl
theorem nf117 : ∃ i, Try.prog.info? 117 = some i := Option.isSome_iff_exists.1 (by kernel_rfl)
theorem sz118 : (Try.prog.info? 118).map (·.size) = some 1 := by kernel_rfl
theorem ce118 : Nat.blt 0 (Try.prog.cellsOf 118) = true := by kernel_rfl
theorem nf118 : ∃ i, Try.prog.info? 118 = some i := Option.isSome_iff_exists.1 (by kernel_rfl)
theorem sz119 : (Try.prog.info? 119).map (·.size) = some 1 := by kernel_rfl
theorem ce119 : Nat.blt 0 (Try.prog.cellsOf 119) = true := by kernel_rfl
theorem nf119 : ∃ i, Try.prog.info? 119 = some i := Option.isSome_iff_exists.1 (by kernel_rfl)
theorem zr119 : (Try.prog.info? 119).map (·.zero) = some (some (.map none)) := by kernel_rfl
theorem sz120 : (Try.prog.info? 120).map (·.size) = some 1 := by kernel_rfl
theorem ce120 : Nat.blt 0 (Try.prog.cellsOf 120) = true := by kernel_rfl
theorem nf120 : ∃ i, Try.prog.info? 120 = some i := Option.isSome_iff_exists.1 (by kernel_rfl)
theorem sz121 : (Try.prog.info? 121).map (·.size) = some 1 := by kernel_rfl
theorem ce121 : Nat.blt 0 (Try.prog.cellsOf 121) = true := by kernel_rfl
theorem nf121 : ∃ i, Try.prog.info? 121 = some i := Option.isSome_iff_exists.1 (by kernel_rfl)
theorem sz122 : (Try.prog.info? 122).map (·.size) = some 1 := by kernel_rfl
theorem ce122 : Nat.blt 0 (Try.prog.cellsOf 122) = true := by kernel_rfl
theorem nf122 : ∃ i, Try.prog.info? 122 = some i := Option.isSome_iff_exists.1 (by kernel_rfl)
theorem sz123 : (Try.prog.info? 123).map (·.size) = some 1 := by kernel_rfl
theorem ce123 : Nat.blt 0 (Try.prog.cellsOf 123) = true := by kernel_rfl
theorem nf123 : ∃ i, Try.prog.info? 123 = some i := Option.isSome_iff_exists.1 (by kernel_rfl)
theorem sz124 : (Try.prog.info? 124).map (·.size) = some 1 := by kernel_rfl
theorem ce124 : Nat.blt 0 (Try.prog.cellsOf 124) = true := by kernel_rfl
theorem nf124 : ∃ i, Try.prog.info? 124 = some i := Option.isSome_iff_exists.1 (by kernel_rfl)
theorem zr124 : (Try.prog.info? 124).map (·.zero) = some (some (.map none)) := by kernel_rfl
theorem sz125 : (Try.prog.info? 125).map (·.size) = some 1 := by kernel_rfl
theorem ce125 : Nat.blt 0 (Try.prog.cellsOf 125) = true := by kernel_rfl
theorem nf125 : ∃ i, Try.prog.info? 125 = some i := Option.isSome_iff_exists.1 (by kernel_rfl)
theorem sz126 : (Try.prog.info? 126).map (·.size) = some 1 := by kernel_rfl
theorem ce126 : Nat.blt 0 (Try.prog.cellsOf 126) = true := by kernel_rfl
theorem nf126 : ∃ i, Try.prog.info? 126 = some i := Option.isSome_iff_exists.1 (by kernel_rfl)
theorem sz127 : (Try.prog.info? 127).map (·.size) = some 1 := by kernel_rfl
theorem ce127 : Nat.blt 0 (Try.prog.cellsOf 127) = true := by kernel_rfl
theorem nf127 : ∃ i, Try.prog.info? 127 = some i := Option.isSome_iff_exists.1 (by kernel_rfl)
theorem sz128 : (Try.prog.info? 128).map (·.size) = some 1 := by kernel_rfl
theorem ce128 : Nat.blt 0 (Try.prog.cellsOf 128) = true := by kernel_rfl
theorem nf128 : ∃ i, Try.prog.info? 128 = some i := Option.isSome_iff_exists.1 (by kernel_rfl)
theorem sz129 : (Try.prog.info? 129).map (·.size) = some 1 := by kernel_rfl
theorem ce129 : Nat.blt 0 (Try.prog.cellsOf 129) = true := by kernel_rfl
theorem nf129 : ∃ i, Try.prog.info? 129 = some i := Option.isSome_iff_exists.1 (by kernel_rfl)
theorem sz130 : (Try.prog.info? 130).map (·.size) = some 1 := by kernel_rfl
theorem ce130 : Nat.blt 0 (Try.prog.cellsOf 130) = true := by kernel_rfl
theorem nf130 : ∃ i, Try.prog.info? 130 = some i := Option.isSome_iff_exists.1 (by kernel_rfl)
theorem sz131 : (Try.prog.info? 131).map (·.size) = some 1 := by kernel_rfl
theorem ce131 : Nat.blt 0 (Try.prog.cellsOf 131) = true := by kernel_rfl
theorem nf131 : ∃ i, Try.prog.info? 131 = some i := Option.isSome_iff_exists.1 (by kernel_rfl)
theorem sz132 : (Try.prog.info? 132).map (·.size) = some 4 := by kernel_rfl
theorem ce132 : Nat.blt 0 (Try.prog.cellsOf 132) = true := by kernel_rfl
theorem nf132 : ∃ i, Try.prog.info? 132 = some i := Option.isSome_iff_exists.1 (by kernel_rfl)
theorem zr132 : (Try.prog.info? 132).map (·.zero) = some (some (.agg [.int .i64 0, .int .i64 0, .int .i64 0, .int .i64 0].toArray)) := by kernel_rfl
theorem sz133 : (Try.prog.info? 133).map (·.size) = some 1 := by kernel_rfl
theorem ce133 : Nat.blt 0 (Try.prog.cellsOf 133) = true := by kernel_rfl
theorem nf133 : ∃ i, Try.prog.info? 133 = some i := Option.isSome_iff_exists.1 (by kernel_rfl)
theorem sz134 : (Try.prog.info? 134).map (·.size) = some 2 := by kernel_rfl
theorem ce134 : Nat.blt 0 (Try.prog.cellsOf 134) = true := by kernel_rfl
theorem nf134 : ∃ i, Try.prog.info? 134 = some i := Option.isSome_iff_exists.1 (by kernel_rfl)
theorem zr134 : (Try.prog.info? 134).map (·.zero) = some (some (.agg [.bool false, .bool false].toArray)) := by kernel_rfl
theorem sz135 : (Try.prog.info? 135).map (·.size) = some 1 := by kernel_rfl
theorem ce135 : Nat.blt 0 (Try.prog.cellsOf 135) = true := by kernel_rfl
theorem nf135 : ∃ i, Try.prog.info? 135 = some i := Option.isSome_iff_exists.1 (by kernel_rfl)
theorem sz136 : (Try.prog.info? 136).map (·.size) = some 1 := by kernel_rfl
theorem ce136 : Nat.blt 0 (Try.prog.cellsOf 136) = true := by kernel_rfl
theorem nf136 : ∃ i, Try.prog.info? 136 = some i := Option.isSome_iff_exists.1 (by kernel_rfl)
theorem sz137 : (Try.prog.info? 137).map (·.size) = some 1 := by kernel_rfl
theorem ce137 : Nat.blt 0 (Try.prog.cellsOf 137) = true := by kernel_rfl
theorem nf137 : ∃ i, Try.prog.info? 137 = some i := Option.isSome_iff_exists.1 (by kernel_rfl)
theorem zr137 : (Try.prog.info? 137).map (·.zero) = some (some (.int .u64 0)) := by kernel_rfl
theorem sz138 : (Try.prog.info? 138).map (·.size) = some 1 := by kernel_rfl
theorem ce138 : Nat.blt 0 (Try.prog.cellsOf 138) = true := by kernel_rfl
theorem nf138 : ∃ i, Try.prog.info? 138 = some i := Option.isSome_iff_exists.1 (by kernel_rfl)
theorem zr138 : (Try.prog.info? 138).map (·.zero) = some (some (.int .i64 0)) := by kernel_rfl
theorem sz139 : (Try.prog.info? 139).map (·.size) = some 1 := by kernel_rfl
theorem ce139 : Nat.blt 0 (Try.prog.cellsOf 139) = true := by kernel_rfl
theorem nf139 : ∃ i, Try.prog.info? 139 = some i := Option.isSome_iff_exists.1 (by kernel_rfl)
theorem sz140 : (Try.prog.info? 140).map (·.size) = some 1 := by kernel_rfl
theorem ce140 : Nat.blt 0 (Try.prog.cellsOf 140) = true := by kernel_rfl
theorem nf140 : ∃ i, Try.prog.info? 140 = some i := Option.isSome_iff_exists.1 (by kernel_rfl)
theorem sz141 : (Try.prog.info? 141).map (·.size) = some 1 := by kernel_rfl
theorem ce141 : Nat.blt 0 (Try.prog.cellsOf 141) = true := by kernel_rfl
theorem nf141 : ∃ i, Try.prog.info? 141 = some i := Option.isSome_iff_exists.1 (by kernel_rfl)
theorem sz142 : (Try.prog.info? 142).map (·.size) = some 1 := by kernel_rfl
theorem ce142 : Nat.blt 0 (Try.prog.cellsOf 142) = true := by kernel_rfl
theorem nf142 : ∃ i, Try.prog.info? 142 = some i := Option.isSome_iff_exists.1 (by kernel_rfl)
theorem sz143 : (Try.prog.info? 143).map (·.size) = some 1 := by kernel_rfl
theorem ce143 : Nat.blt 0 (Try.prog.cellsOf 143) = true := by kernel_rfl
theorem nf143 : ∃ i, Try.prog.info? 143 = some i := Option.isSome_iff_exists.1 (by kernel_rfl)
theorem sz144 : (Try.prog.info? 144).map (·.size) = some 1 := by kernel_rfl
theorem ce144 : Nat.blt 0 (Try.prog.cellsOf 144) = true := by kernel_rfl
theorem nf144 : ∃ i, Try.prog.info? 144 = some i := Option.isSome_iff_exists.1 (by kernel_rfl)
theorem sz145 : (Try.prog.info? 145).map (·.size) = some 1 := by kernel_rfl
theorem ce145 : Nat.blt 0 (Try.prog.cellsOf 145) = true := by kernel_rfl
theorem nf145 : ∃ i, Try.prog.info? 145 = some i := Option.isSome_iff_exists.1 (by kernel_rfl)
theorem sz146 : (Try.prog.info? 146).map (·.size) = some 1 := by kernel_rfl
theorem ce146 : Nat.blt 0 (Try.prog.cellsOf 146) = true := by kernel_rfl
theorem nf146 : ∃ i, Try.prog.info? 146 = some i := Option.isSome_iff_exists.1 (by kernel_rfl)
theorem sz147 : (Try.prog.info? 147).map (·.size) = some 1 := by kernel_rfl
theorem ce147 : Nat.blt 0 (Try.prog.cellsOf 147) = true := by kernel_rfl
theorem nf147 : ∃ i, Try.prog.info? 147 = some i := Option.isSome_iff_exists.1 (by kernel_rfl)
theorem zr147 : (Try.prog.info? 147).map (·.zero) = some (some (.int .u32 0)) := by kernel_rfl
theorem sz148 : (Try.prog.info? 148).map (·.size) = some 1 := by kernel_rfl
theorem ce148 : Nat.blt 0 (Try.prog.cellsOf 148) = true := by kernel_rfl
theorem nf148 : ∃ i, Try.prog.info? 148 = some i := Option.isSome_iff_exists.1 (by kernel_rfl)
theorem sz149 : (Try.prog.info? 149).map (·.size) = some 1 := by kernel_rfl
theorem ce149 : Nat.blt 0 (Try.prog.cellsOf 149) = true := by kernel_rfl
theorem nf149 : ∃ i, Try.prog.info? 149 = some i := Option.isSome_iff_exists.1 (by kernel_rfl)
theorem zr149 : (Try.prog.info? 149).map (·.zero) = some (some (.int .u64 0)) := by kernel_rfl
theorem sz150 : (Try.prog.info? 150).map (·.size) = some 1 := by kernel_rfl
theorem ce150 : Nat.blt 0 (Try.prog.cellsOf 150) = true := by kernel_rfl
theorem nf150 : ∃ i, Try.prog.info? 150 = some i := Option.isSome_iff_exists.1 (by kernel_rfl)
theorem zr150 : (Try.prog.info? 150).map (·.zero) = some (some (.int .u64 0)) := by kernel_rfl
theorem sz151 : (Try.prog.info? 151).map (·.size) = some 1 := by kernel_rfl
theorem ce151 : Nat.blt 0 (Try.prog.cellsOf 151) = true := by kernel_rfl
theorem nf151 : ∃ i, Try.prog.info? 151 = some i := Option.isSome_iff_exists.1 (by kernel_rfl)
theorem sz152 : (Try.prog.info? 152).map (·.size) = some 1 := by kernel_rfl
theorem ce152 : Nat.blt 0 (Try.prog.cellsOf 152) = true := by kernel_rfl
theorem nf152 : ∃ i, Try.prog.info? 152 = some i := Option.isSome_iff_exists.1 (by kernel_rfl)
theorem sz153 : (Try.prog.info? 153).map (·.size) = some 1 := by kernel_rfl
theorem ce153 : Nat.blt 0 (Try.prog.cellsOf 153) = true := by kernel_rfl
theorem nf153 : ∃ i, Try.prog.info? 153 = some i := Option.isSome_iff_exists.1 (by kernel_rfl)
theorem sz154 : (Try.prog.info? 154).map (·.size) = some 1 := by kernel_rfl
theorem ce154 : Nat.blt 0 (Try.prog.cellsOf 154) = true := by kernel_rfl
theorem nf154 : ∃ i, Try.prog.info? 154 = some i := Option.isSome_iff_exists.1 (by kernel_rfl)
theorem sz155 : (Try.prog.info? 155).map (·.size) = some 1 := by kernel_rfl
theorem ce155 : Nat.blt 0 (Try.prog.cellsOf 155) = true := by kernel_rfl
theorem nf155 : ∃ i, Try.prog.info? 155 = some i := Option.isSome_iff_exists.1 (by kernel_rfl)
theorem zr155 : (Try.prog.info? 155).map (·.zero) = some (some (.pointer none)) := by kernel_rfl
theorem sz156 : (Try.prog.info? 156).map (·.size) = some 1 := by kernel_rfl
theorem ce156 : Nat.blt 0 (Try.prog.cellsOf 156) = true := by kernel_rfl
theorem nf156 : ∃ i, Try.prog.info? 156 = some i := Option.isSome_iff_exists.1 (by kernel_rfl)
theorem sz157 : (Try.prog.info? 157).map (·.size) = some 1 := by kernel_rfl
theorem ce157 : Nat.blt 0 (Try.prog.cellsOf 157) = true := by kernel_rfl
theorem nf157 : ∃ i, Try.prog.info? 157 = some i := Option.isSome_iff_exists.1 (by kernel_rfl)
theorem sz158 : (Try.prog.info? 158).map (·.size) = some 1 := by kernel_rfl
theorem ce158 : Nat.blt 0 (Try.prog.cellsOf 158) = true := by kernel_rfl
theorem nf158 : ∃ i, Try.prog.info? 158 = some i := Option.isSome_iff_exists.1 (by kernel_rfl)
theorem sz159 : (Try.prog.info? 159).map (·.size) = some 4 := by kernel_rfl
theorem ce159 : Nat.blt 0 (Try.prog.cellsOf 159) = true := by kernel_rfl
theorem nf159 : ∃ i, Try.prog.info? 159 = some i := Option.isSome_iff_exists.1 (by kernel_rfl)
theorem zr159 : (Try.prog.info? 159).map (·.zero) = some (some (.agg [.pointer none, .pointer none, .pointer none, .string ⟨#[]⟩].toArray)) := by kernel_rfl
theorem st159 : StOf Try.prog 159 [(0, 1), (1, 1), (2, 1), (3, 1)] [.pointer none, .pointer none, .pointer none, .string ⟨#[]⟩] := ⟨_, Try.underlying159, by kernel_rfl, ⟨⟨rfl, by kernel_rfl⟩, ⟨rfl, by kernel_rfl⟩, ⟨rfl, by kernel_rfl⟩, ⟨rfl, by kernel_rfl⟩, trivial⟩⟩
theorem sz160 : (Try.prog.info? 160).map (·.size) = some 4 := by kernel_rfl
theorem ce160 : Nat.blt 0 (Try.prog.cellsOf 160) = true := by kernel_rfl
theorem nf160 : ∃ i, Try.prog.info? 160 = some i := Option.isSome_iff_exists.1 (by kernel_rfl)
theorem zr160 : (Try.prog.info? 160).map (·.zero) = some (some (.agg [.pointer none, .pointer none, .pointer none, .string ⟨#[]⟩].toArray)) := by kernel_rfl
theorem st160 : StOf Try.prog 160 [(0, 1), (1, 1), (2, 1), (3, 1)] [.pointer none, .pointer none, .pointer none, .string ⟨#[]⟩] := ⟨_, Try.underlying160, by kernel_rfl, ⟨⟨rfl, by kernel_rfl⟩, ⟨rfl, by kernel_rfl⟩, ⟨rfl, by kernel_rfl⟩, ⟨rfl, by kernel_rfl⟩, trivial⟩⟩
theorem sz161 : (Try.prog.info? 161).map (·.size) = some 0 := by kernel_rfl
theorem nf161 : ∃ i, Try.prog.info? 161 = some i := Option.isSome_iff_exists.1 (by kernel_rfl)
theorem zr161 : (Try.prog.info? 161).map (·.zero) = some (some (.agg [].toArray)) := by kernel_rfl
theorem sz162 : (Try.prog.info? 162).map (·.size) = some 0 := by kernel_rfl
theorem nf162 : ∃ i, Try.prog.info? 162 = some i := Option.isSome_iff_exists.1 (by kernel_rfl)
theorem zr162 : (Try.prog.info? 162).map (·.zero) = some (some (.agg [].toArray)) := by kernel_rfl
theorem st162 : StOf Try.prog 162 [(0, 0)] [] := ⟨_, Try.underlying162, by kernel_rfl, ⟨⟨rfl, by kernel_rfl⟩, trivial⟩⟩
theorem sz163 : (Try.prog.info? 163).map (·.size) = some 0 := by kernel_rfl
theorem nf163 : ∃ i, Try.prog.info? 163 = some i := Option.isSome_iff_exists.1 (by kernel_rfl)
theorem zr163 : (Try.prog.info? 163).map (·.zero) = some (some (.agg [].toArray)) := by kernel_rfl
theorem st163 : StOf Try.prog 163 [(0, 0)] [] := ⟨_, Try.underlying163, by kernel_rfl, ⟨⟨rfl, by kernel_rfl⟩, trivial⟩⟩
theorem sz164 : (Try.prog.info? 164).map (·.size) = some 1 := by kernel_rfl
theorem ce164 : Nat.blt 0 (Try.prog.cellsOf 164) = true := by kernel_rfl
theorem nf164 : ∃ i, Try.prog.info? 164 = some i := Option.isSome_iff_exists.1 (by kernel_rfl)
theorem zr164 : (Try.prog.info? 164).map (·.zero) = some (some (.int .u8 0)) := by kernel_rfl
theorem sz165 : (Try.prog.info? 165).map (·.size) = some 1 := by kernel_rfl
theorem ce165 : Nat.blt 0 (Try.prog.cellsOf 165) = true := by kernel_rfl
theorem nf165 : ∃ i, Try.prog.info? 165 = some i := Option.isSome_iff_exists.1 (by kernel_rfl)
theorem zr165 : (Try.prog.info? 165).map (·.zero) = some (some (.int .u8 0)) := by kernel_rfl
theorem sz166 : (Try.prog.info? 166).map (·.size) = some 1 := by kernel_rfl
theorem ce166 : Nat.blt 0 (Try.prog.cellsOf 166) = true := by kernel_rfl
theorem nf166 : ∃ i, Try.prog.info? 166 = some i := Option.isSome_iff_exists.1 (by kernel_rfl)
theorem sz167 : (Try.prog.info? 167).map (·.size) = some 1 := by kernel_rfl
theorem ce167 : Nat.blt 0 (Try.prog.cellsOf 167) = true := by kernel_rfl
theorem nf167 : ∃ i, Try.prog.info? 167 = some i := Option.isSome_iff_exists.1 (by kernel_rfl)
theorem zr167 : (Try.prog.info? 167).map (·.zero) = some (some (.pointer none)) := by kernel_rfl
theorem sz168 : (Try.prog.info? 168).map (·.size) = some 1 := by kernel_rfl
theorem ce168 : Nat.blt 0 (Try.prog.cellsOf 168) = true := by kernel_rfl
theorem nf168 : ∃ i, Try.prog.info? 168 = some i := Option.isSome_iff_exists.1 (by kernel_rfl)
theorem zr168 : (Try.prog.info? 168).map (·.zero) = some (some (.int .i32 0)) := by kernel_rfl
theorem sz169 : (Try.prog.info? 169).map (·.size) = some 1 := by kernel_rfl
theorem ce169 : Nat.blt 0 (Try.prog.cellsOf 169) = true := by kernel_rfl
theorem nf169 : ∃ i, Try.prog.info? 169 = some i := Option.isSome_iff_exists.1 (by kernel_rfl)
theorem zr169 : (Try.prog.info? 169).map (·.zero) = some (some (.int .i32 0)) := by kernel_rfl
theorem sz170 : (Try.prog.info? 170).map (·.size) = some 11 := by kernel_rfl
theorem ce170 : Nat.blt 0 (Try.prog.cellsOf 170) = true := by kernel_rfl
theorem nf170 : ∃ i, Try.prog.info? 170 = some i := Option.isSome_iff_exists.1 (by kernel_rfl)
theorem zr170 : (Try.prog.info? 170).map (·.zero) = some (some (.agg [.int .u64 0, .int .u64 0, .int .u32 0, .int .u8 0, .int .u8 0, .int .u8 0, .int .u8 0, .nilFunc, .pointer none, .int .i32 0, .int .i32 0].toArray)) := by kernel_rfl
theorem st170 : StOf Try.prog 170 [(0, 1), (1, 1), (2, 1), (3, 1), (4, 1), (5, 1), (6, 1), (7, 1), (8, 1), (9, 1), (10, 1)] [.int .u64 0, .int .u64 0, .int .u32 0, .int .u8 0, .int .u8 0, .int .u8 0, .int .u8 0, .nilFunc, .pointer none, .int .i32 0, .int .i32 0] := ⟨_, Try.underlying170, by kernel_rfl, ⟨⟨rfl, by kernel_rfl⟩, ⟨rfl, by kernel_rfl⟩, ⟨rfl, by kernel_rfl⟩, ⟨rfl, by kernel_rfl⟩, ⟨rfl, by kernel_rfl⟩, ⟨rfl, by kernel_rfl⟩, ⟨rfl, by kernel_rfl⟩, ⟨rfl, by kernel_rfl⟩, ⟨rfl, by kernel_rfl⟩, ⟨rfl, by kernel_rfl⟩, ⟨rfl, by kernel_rfl⟩, trivial⟩⟩
theorem sz171 : (Try.prog.info? 171).map (·.size) = some 11 := by kernel_rfl
theorem ce171 : Nat.blt 0 (Try.prog.cellsOf 171) = true := by kernel_rfl
theorem nf171 : ∃ i, Try.prog.info? 171 = some i := Option.isSome_iff_exists.1 (by kernel_rfl)
theorem zr171 : (Try.prog.info? 171).map (·.zero) = some (some (.agg [.int .u64 0, .int .u64 0, .int .u32 0, .int .u8 0, .int .u8 0, .int .u8 0, .int .u8 0, .nilFunc, .pointer none, .int .i32 0, .int .i32 0].toArray)) := by kernel_rfl
theorem st171 : StOf Try.prog 171 [(0, 1), (1, 1), (2, 1), (3, 1), (4, 1), (5, 1), (6, 1), (7, 1), (8, 1), (9, 1), (10, 1)] [.int .u64 0, .int .u64 0, .int .u32 0, .int .u8 0, .int .u8 0, .int .u8 0, .int .u8 0, .nilFunc, .pointer none, .int .i32 0, .int .i32 0] := ⟨_, Try.underlying171, by kernel_rfl, ⟨⟨rfl, by kernel_rfl⟩, ⟨rfl, by kernel_rfl⟩, ⟨rfl, by kernel_rfl⟩, ⟨rfl, by kernel_rfl⟩, ⟨rfl, by kernel_rfl⟩, ⟨rfl, by kernel_rfl⟩, ⟨rfl, by kernel_rfl⟩, ⟨rfl, by kernel_rfl⟩, ⟨rfl, by kernel_rfl⟩, ⟨rfl, by kernel_rfl⟩, ⟨rfl, by kernel_rfl⟩, trivial⟩⟩
theorem sz172 : (Try.prog.info? 172).map (·.size) = some 1 := by kernel_rfl
theorem ce172 : Nat.blt 0 (Try.prog.cellsOf 172) = true := by kernel_rfl
theorem nf172 : ∃ i, Try.prog.info? 172 = some i := Option.isSome_iff_exists.1 (by kernel_rfl)
theorem zr172 : (Try.prog.info? 172).map (·.zero) = some (some (.pointer none)) := by kernel_rfl
theorem cf2 : ∀ args w, (callFunc 2 args).run Try.prog w = .ok (.enter 2 args) w := enter_ok (c := Try.f2.body.getD .skip) Try.func2 (by decide) rfl
theorem cf3 : ∀ args w, (callFunc 3 args).run Try.prog w = .ok (.enter 3 args) w := enter_ok (c := Try.f3.body.getD .skip) Try.func3 (by decide) rfl
theorem cf4 : ∀ args w, (callFunc 4 args).run Try.prog w = .ok (.enter 4 args) w := enter_ok (c := Try.f4.body.getD .skip) Try.func4 (by decide) rfl
theorem cf5 : ∀ args w, (callFunc 5 args).run Try.prog w = .ok (.enter 5 args) w := enter_ok (c := Try.f5.body.getD .skip) Try.func5 (by decide) rfl
theorem cf6 : ∀ args w, (callFunc 6 args).run Try.prog w = .ok (.enter 6 args) w := enter_ok (c := Try.f6.body.getD .skip) Try.func6 (by decide) rfl
theorem cf7 : ∀ args w, (callFunc 7 args).run Try.prog w = .ok (.enter 7 args) w := enter_ok (c := Try.f7.body.getD .skip) Try.func7 (by decide) rfl
theorem cf8 : ∀ args w, (callFunc 8 args).run Try.prog w = .ok (.enter 8 args) w := enter_ok (c := Try.f8.body.getD .skip) Try.func8 (by decide) rfl
theorem cf9 : ∀ args w, (callFunc 9 args).run Try.prog w = .ok (.enter 9 args) w := enter_ok (c := Try.f9.body.getD .skip) Try.func9 (by decide) rfl
theorem cf10 : ∀ args w, (callFunc 10 args).run Try.prog w = .ok (.enter 10 args) w := enter_ok (c := Try.f10.body.getD .skip) Try.func10 (by decide) rfl
theorem cf11 : ∀ args w, (callFunc 11 args).run Try.prog w = .ok (.enter 11 args) w := enter_ok (c := Try.f11.body.getD .skip) Try.func11 (by decide) rfl
theorem cf12 : ∀ args w, (callFunc 12 args).run Try.prog w = .ok (.enter 12 args) w := enter_ok (c := Try.f12.body.getD .skip) Try.func12 (by decide) rfl
theorem cf13 : ∀ args w, (callFunc 13 args).run Try.prog w = .ok (.enter 13 args) w := enter_ok (c := Try.f13.body.getD .skip) Try.func13 (by decide) rfl
theorem cf14 : ∀ args w, (callFunc 14 args).run Try.prog w = .ok (.enter 14 args) w := enter_ok (c := Try.f14.body.getD .skip) Try.func14 (by decide) rfl
theorem cf15 : ∀ args w, (callFunc 15 args).run Try.prog w = .ok (.enter 15 args) w := enter_ok (c := Try.f15.body.getD .skip) Try.func15 (by decide) rfl
theorem cf16 : ∀ args w, (callFunc 16 args).run Try.prog w = .ok (.enter 16 args) w := enter_ok (c := Try.f16.body.getD .skip) Try.func16 (by decide) rfl
theorem cf17 : ∀ args w, (callFunc 17 args).run Try.prog w = .ok (.enter 17 args) w := enter_ok (c := Try.f17.body.getD .skip) Try.func17 (by decide) rfl
theorem cf18 : ∀ args w, (callFunc 18 args).run Try.prog w = .ok (.enter 18 args) w := enter_ok (c := Try.f18.body.getD .skip) Try.func18 (by decide) rfl
theorem cf19 : ∀ args w, (callFunc 19 args).run Try.prog w = .ok (.enter 19 args) w := enter_ok (c := Try.f19.body.getD .skip) Try.func19 (by decide) rfl
theorem cf20 : ∀ args w, (callFunc 20 args).run Try.prog w = .ok (.enter 20 args) w := enter_ok (c := Try.f20.body.getD .skip) Try.func20 (by decide) rfl
theorem cf21 : ∀ args w, (callFunc 21 args).run Try.prog w = .ok (.enter 21 args) w := enter_ok (c := Try.f21.body.getD .skip) Try.func21 (by decide) rfl
theorem cf22 : ∀ args w, (callFunc 22 args).run Try.prog w = .ok (.enter 22 args) w := enter_ok (c := Try.f22.body.getD .skip) Try.func22 (by decide) rfl
theorem cf23 : ∀ args w, (callFunc 23 args).run Try.prog w = .ok (.enter 23 args) w := enter_ok (c := Try.f23.body.getD .skip) Try.func23 (by decide) rfl
theorem cf24 : ∀ args w, (callFunc 24 args).run Try.prog w = .ok (.enter 24 args) w := enter_ok (c := Try.f24.body.getD .skip) Try.func24 (by decide) rfl
theorem cf25 : ∀ args w, (callFunc 25 args).run Try.prog w = .ok (.enter 25 args) w := enter_ok (c := Try.f25.body.getD .skip) Try.func25 (by decide) rfl
theorem cf26 : ∀ args w, (callFunc 26 args).run Try.prog w = .ok (.enter 26 args) w := enter_ok (c := Try.f26.body.getD .skip) Try.func26 (by decide) rfl
theorem cf27 : ∀ args w, (callFunc 27 args).run Try.prog w = .ok (.enter 27 args) w := enter_ok (c := Try.f27.body.getD .skip) Try.func27 (by decide) rfl
theorem cf28 : ∀ args w, (callFunc 28 args).run Try.prog w = .ok (.enter 28 args) w := enter_ok (c := Try.f28.body.getD .skip) Try.func28 (by decide) rfl
theorem cf29 : ∀ args w, (callFunc 29 args).run Try.prog w = .ok (.enter 29 args) w := enter_ok (c := Try.f29.body.getD .skip) Try.func29 (by decide) rfl
theorem cf30 : ∀ args w, (callFunc 30 args).run Try.prog w = .ok (.enter 30 args) w := enter_ok (c := Try.f30.body.getD .skip) Try.func30 (by decide) rfl
theorem cf31 : ∀ args w, (callFunc 31 args).run Try.prog w = .ok (.enter 31 args) w := enter_ok (c := Try.f31.body.getD .skip) Try.func31 (by decide) rfl
theorem cf32 : ∀ args w, (callFunc 32 args).run Try.prog w = .ok (.enter 32 args) w := enter_ok (c := Try.f32.body.getD .skip) Try.func32 (by decide) rfl
theorem cf33 : ∀ args w, (callFunc 33 args).run Try.prog w = .ok (.enter 33 args) w := enter_ok (c := Try.f33.body.getD .skip) Try.func33 (by decide) rfl
theorem cf34 : ∀ args w, (callFunc 34 args).run Try.prog w = .ok (.enter 34 args) w := enter_ok (c := Try.f34.body.getD .skip) Try.func34 (by decide) rfl
theorem cf35 : ∀ args w, (callFunc 35 args).run Try.prog w = .ok (.enter 35 args) w := enter_ok (c := Try.f35.body.getD .skip) Try.func35 (by decide) rfl
theorem cf36 : ∀ args w, (callFunc 36 args).run Try.prog w = .ok (.enter 36 args) w := enter_ok (c := Try.f36.body.getD .skip) Try.func36 (by decide) rfl
theorem cf37 : ∀ args w, (callFunc 37 args).run Try.prog w = .ok (.enter 37 args) w := enter_ok (c := Try.f37.body.getD .skip) Try.func37 (by decide) rfl
theorem cf38 : ∀ args w, (callFunc 38 args).run Try.prog w = .ok (.enter 38 args) w := enter_ok (c := Try.f38.body.getD .skip) Try.func38 (by decide) rfl
theorem cf39 : ∀ args w, (callFunc 39 args).run Try.prog w = .ok (.enter 39 args) w := enter_ok (c := Try.f39.body.getD .skip) Try.func39 (by decide) rfl
theorem cf40 : ∀ args w, (callFunc 40 args).run Try.prog w = .ok (.enter 40 args) w := enter_ok (c := Try.f40.body.getD .skip) Try.func40 (by decide) rfl
theorem cf41 : ∀ args w, (callFunc 41 args).run Try.prog w = .ok (.enter 41 args) w := enter_ok (c := Try.f41.body.getD .skip) Try.func41 (by decide) rfl
theorem cf42 : ∀ args w, (callFunc 42 args).run Try.prog w = .ok (.enter 42 args) w := enter_ok (c := Try.f42.body.getD .skip) Try.func42 (by decide) rfl
theorem cf43 : ∀ args w, (callFunc 43 args).run Try.prog w = .ok (.enter 43 args) w := enter_ok (c := Try.f43.body.getD .skip) Try.func43 (by decide) rfl
theorem cf44 : ∀ args w, (callFunc 44 args).run Try.prog w = .ok (.enter 44 args) w := enter_ok (c := Try.f44.body.getD .skip) Try.func44 (by decide) rfl
theorem cf45 : ∀ args w, (callFunc 45 args).run Try.prog w = .ok (.enter 45 args) w := enter_ok (c := Try.f45.body.getD .skip) Try.func45 (by decide) rfl
theorem cf46 : ∀ args w, (callFunc 46 args).run Try.prog w = .ok (.enter 46 args) w := enter_ok (c := Try.f46.body.getD .skip) Try.func46 (by decide) rfl
theorem cf47 : ∀ args w, (callFunc 47 args).run Try.prog w = .ok (.enter 47 args) w := enter_ok (c := Try.f47.body.getD .skip) Try.func47 (by decide) rfl
theorem cf48 : ∀ args w, (callFunc 48 args).run Try.prog w = .ok (.enter 48 args) w := enter_ok (c := Try.f48.body.getD .skip) Try.func48 (by decide) rfl
theorem cf49 : ∀ args w, (callFunc 49 args).run Try.prog w = .ok (.enter 49 args) w := enter_ok (c := Try.f49.body.getD .skip) Try.func49 (by decide) rfl
theorem cf50 : ∀ args w, (callFunc 50 args).run Try.prog w = .ok (.enter 50 args) w := enter_ok (c := Try.f50.body.getD .skip) Try.func50 (by decide) rfl
theorem cf51 : ∀ args w, (callFunc 51 args).run Try.prog w = .ok (.enter 51 args) w := enter_ok (c := Try.f51.body.getD .skip) Try.func51 (by decide) rfl
theorem cf52 : ∀ args w, (callFunc 52 args).run Try.prog w = .ok (.enter 52 args) w := enter_ok (c := Try.f52.body.getD .skip) Try.func52 (by decide) rfl
theorem cf53 : ∀ args w, (callFunc 53 args).run Try.prog w = .ok (.enter 53 args) w := enter_ok (c := Try.f53.body.getD .skip) Try.func53 (by decide) rfl
theorem cf54 : ∀ args w, (callFunc 54 args).run Try.prog w = .ok (.enter 54 args) w := enter_ok (c := Try.f54.body.getD .skip) Try.func54 (by decide) rfl
theorem cf55 : ∀ args w, (callFunc 55 args).run Try.prog w = .ok (.enter 55 args) w := enter_ok (c := Try.f55.body.getD .skip) Try.func55 (by decide) rfl
theorem cf56 : ∀ args w, (callFunc 56 args).run Try.prog w = .ok (.enter 56 args) w := enter_ok (c := Try.f56.body.getD .skip) Try.func56 (by decide) rfl
theorem cf57 : ∀ args w, (callFunc 57 args).run Try.prog w = .ok (.enter 57 args) w := enter_ok (c := Try.f57.body.getD .skip) Try.func57 (by decide) rfl
theorem cf58 : ∀ args w, (callFunc 58 args).run Try.prog w = .ok (.enter 58 args) w := enter_ok (c := Try.f58.body.getD .skip) Try.func58 (by decide) rfl
theorem cf59 : ∀ args w, (callFunc 59 args).run Try.prog w = .ok (.enter 59 args) w := enter_ok (c := Try.f59.body.getD .skip) Try.func59 (by decide) rfl
theorem cf60 : ∀ args w, (callFunc 60 args).run Try.prog w = .ok (.enter 60 args) w := enter_ok (c := Try.f60.body.getD .skip) Try.func60 (by decide) rfl
theorem cf61 : ∀ args w, (callFunc 61 args).run Try.prog w = .ok (.enter 61 args) w := enter_ok (c := Try.f61.body.getD .skip) Try.func61 (by decide) rfl
theorem cf62 : ∀ args w, (callFunc 62 args).run Try.prog w = .ok (.enter 62 args) w := enter_ok (c := Try.f62.body.getD .skip) Try.func62 (by decide) rfl
theorem cf63 : ∀ args w, (callFunc 63 args).run Try.prog w = .ok (.enter 63 args) w := enter_ok (c := Try.f63.body.getD .skip) Try.func63 (by decide) rfl
theorem cf64 : ∀ args w, (callFunc 64 args).run Try.prog w = .ok (.enter 64 args) w := enter_ok (c := Try.f64.body.getD .skip) Try.func64 (by decide) rfl
theorem cf65 : ∀ args w, (callFunc 65 args).run Try.prog w = .ok (.enter 65 args) w := enter_ok (c := Try.f65.body.getD .skip) Try.func65 (by decide) rfl
theorem cf66 : ∀ args w, (callFunc 66 args).run Try.prog w = .ok (.enter 66 args) w := enter_ok (c := Try.f66.body.getD .skip) Try.func66 (by decide) rfl
theorem cf67 : ∀ args w, (callFunc 67 args).run Try.prog w = .ok (.enter 67 args) w := enter_ok (c := Try.f67.body.getD .skip) Try.func67 (by decide) rfl
theorem cf68 : ∀ args w, (callFunc 68 args).run Try.prog w = .ok (.enter 68 args) w := enter_ok (c := Try.f68.body.getD .skip) Try.func68 (by decide) rfl
theorem cf69 : ∀ args w, (callFunc 69 args).run Try.prog w = .ok (.enter 69 args) w := enter_ok (c := Try.f69.body.getD .skip) Try.func69 (by decide) rfl
theorem cf70 : ∀ args w, (callFunc 70 args).run Try.prog w = .ok (.enter 70 args) w := enter_ok (c := Try.f70.body.getD .skip) Try.func70 (by decide) rfl
theorem cf71 : ∀ args w, (callFunc 71 args).run Try.prog w = .ok (.enter 71 args) w := enter_ok (c := Try.f71.body.getD .skip) Try.func71 (by decide) rfl
theorem cf72 : ∀ args w, (callFunc 72 args).run Try.prog w = .ok (.enter 72 args) w := enter_ok (c := Try.f72.body.getD .skip) Try.func72 (by decide) rfl
theorem cf73 : ∀ args w, (callFunc 73 args).run Try.prog w = .ok (.enter 73 args) w := enter_ok (c := Try.f73.body.getD .skip) Try.func73 (by decide) rfl
theorem cf74 : ∀ args w, (callFunc 74 args).run Try.prog w = .ok (.enter 74 args) w := enter_ok (c := Try.f74.body.getD .skip) Try.func74 (by decide) rfl
theorem cf75 : ∀ args w, (callFunc 75 args).run Try.prog w = .ok (.enter 75 args) w := enter_ok (c := Try.f75.body.getD .skip) Try.func75 (by decide) rfl
theorem cf76 : ∀ args w, (callFunc 76 args).run Try.prog w = .ok (.enter 76 args) w := enter_ok (c := Try.f76.body.getD .skip) Try.func76 (by decide) rfl
theorem cf77 : ∀ args w, (callFunc 77 args).run Try.prog w = .ok (.enter 77 args) w := enter_ok (c := Try.f77.body.getD .skip) Try.func77 (by decide) rfl
theorem cf78 : ∀ args w, (callFunc 78 args).run Try.prog w = .ok (.enter 78 args) w := enter_ok (c := Try.f78.body.getD .skip) Try.func78 (by decide) rfl
theorem cf79 : ∀ args w, (callFunc 79 args).run Try.prog w = .ok (.enter 79 args) w := enter_ok (c := Try.f79.body.getD .skip) Try.func79 (by decide) rfl
theorem cf80 : ∀ args w, (callFunc 80 args).run Try.prog w = .ok (.enter 80 args) w := enter_ok (c := Try.f80.body.getD .skip) Try.func80 (by decide) rfl
theorem cf81 : ∀ args w, (callFunc 81 args).run Try.prog w = .ok (.enter 81 args) w := enter_ok (c := Try.f81.body.getD .skip) Try.func81 (by decide) rfl
theorem cf82 : ∀ args w, (callFunc 82 args).run Try.prog w = .ok (.enter 82 args) w := enter_ok (c := Try.f82.body.getD .skip) Try.func82 (by decide) rfl
theorem cf83 : ∀ args w, (callFunc 83 args).run Try.prog w = .ok (.enter 83 args) w := enter_ok (c := Try.f83.body.getD .skip) Try.func83 (by decide) rfl
theorem cf84 : ∀ args w, (callFunc 84 args).run Try.prog w = .ok (.enter 84 args) w := enter_ok (c := Try.f84.body.getD .skip) Try.func84 (by decide) rfl
theorem cf85 : ∀ args w, (callFunc 85 args).run Try.prog w = .ok (.enter 85 args) w := enter_ok (c := Try.f85.body.getD .skip) Try.func85 (by decide) rfl
theorem cf86 : ∀ args w, (callFunc 86 args).run Try.prog w = .ok (.enter 86 args) w := enter_ok (c := Try.f86.body.getD .skip) Try.func86 (by decide) rfl
theorem cf87 : ∀ args w, (callFunc 87 args).run Try.prog w = .ok (.enter 87 args) w := enter_ok (c := Try.f87.body.getD .skip) Try.func87 (by decide) rfl
theorem cf88 : ∀ args w, (callFunc 88 args).run Try.prog w = .ok (.enter 88 args) w := enter_ok (c := Try.f88.body.getD .skip) Try.func88 (by decide) rfl
theorem cf89 : ∀ args w, (callFunc 89 args).run Try.prog w = .ok (.enter 89 args) w := enter_ok (c := Try.f89.body.getD .skip) Try.func89 (by decide) rfl
theorem cf90 : ∀ args w, (callFunc 90 args).run Try.prog w = .ok (.enter 90 args) w := enter_ok (c := Try.f90.body.getD .skip) Try.func90 (by decide) rfl
theorem cf91 : ∀ args w, (callFunc 91 args).run Try.prog w = .ok (.enter 91 args) w := enter_ok (c := Try.f91.body.getD .skip) Try.func91 (by decide) rfl
theorem cf92 : ∀ args w, (callFunc 92 args).run Try.prog w = .ok (.enter 92 args) w := enter_ok (c := Try.f92.body.getD .skip) Try.func92 (by decide) rfl
theorem cf93 : ∀ args w, (callFunc 93 args).run Try.prog w = .ok (.enter 93 args) w := enter_ok (c := Try.f93.body.getD .skip) Try.func93 (by decide) rfl
theorem cf94 : ∀ args w, (callFunc 94 args).run Try.prog w = .ok (.enter 94 args) w := enter_ok (c := Try.f94.body.getD .skip) Try.func94 (by decide) rfl
theorem cf95 : ∀ args w, (callFunc 95 args).run Try.prog w = .ok (.enter 95 args) w := enter_ok (c := Try.f95.body.getD .skip) Try.func95 (by decide) rfl
theorem cf96 : ∀ args w, (callFunc 96 args).run Try.prog w = .ok (.enter 96 args) w := enter_ok (c := Try.f96.body.getD .skip) Try.func96 (by decide) rfl
theorem cf97 : ∀ args w, (callFunc 97 args).run Try.prog w = .ok (.enter 97 args) w := enter_ok (c := Try.f97.body.getD .skip) Try.func97 (by decide) rfl
theorem cf98 : ∀ args w, (callFunc 98 args).run Try.prog w = .ok (.enter 98 args) w := enter_ok (c := Try.f98.body.getD .skip) Try.func98 (by decide) rfl
theorem cf99 : ∀ args w, (callFunc 99 args).run Try.prog w = .ok (.enter 99 args) w := enter_ok (c := Try.f99.body.getD .skip) Try.func99 (by decide) rfl
theorem cf100 : ∀ args w, (callFunc 100 args).run Try.prog w = .ok (.enter 100 args) w := enter_ok (c := Try.f100.body.getD .skip) Try.func100 (by decide) rfl
theorem cf101 : ∀ args w, (callFunc 101 args).run Try.prog w = .ok (.enter 101 args) w := enter_ok (c := Try.f101.body.getD .skip) Try.func101 (by decide) rfl
theorem cf102 : ∀ args w, (callFunc 102 args).run Try.prog w = .ok (.enter 102 args) w := enter_ok (c := Try.f102.body.getD .skip) Try.func102 (by decide) rfl
theorem cf103 : ∀ args w, (callFunc 103 args).run Try.prog w = .ok (.enter 103 args) w := enter_ok (c := Try.f103.body.getD .skip) Try.func103 (by decide) rfl
theorem cf104 : ∀ args w, (callFunc 104 args).run Try.prog w = .ok (.enter 104 args) w := enter_ok (c := Try.f104.body.getD .skip) Try.func104 (by decide) rfl
theorem cf105 : ∀ args w, (callFunc 105 args).run Try.prog w = .ok (.enter 105 args) w := enter_ok (c := Try.f105.body.getD .skip) Try.func105 (by decide) rfl
theorem cf106 : ∀ args w, (callFunc 106 args).run Try.prog w = .ok (.enter 106 args) w := enter_ok (c := Try.f106.body.getD .skip) Try.func106 (by decide) rfl
theorem cf107 : ∀ args w, (callFunc 107 args).run Try.prog w = .ok (.enter 107 args) w := enter_ok (c := Try.f107.body.getD .skip) Try.func107 (by decide) rfl
theorem cf108 : ∀ args w, (callFunc 108 args).run Try.prog w = .ok (.enter 108 args) w := enter_ok (c := Try.f108.body.getD .skip) Try.func108 (by decide) rfl
theorem cf109 : ∀ args w, (callFunc 109 args).run Try.prog w = .ok (.enter 109 args) w := enter_ok (c := Try.f109.body.getD .skip) Try.func109 (by decide) rfl
theorem cf110 : ∀ args w, (callFunc 110 args).run Try.prog w = .ok (.enter 110 args) w := enter_ok (c := Try.f110.body.getD .skip) Try.func110 (by decide) rfl
theorem cf111 : ∀ args w, (callFunc 111 args).run Try.prog w = .ok (.enter 111 args) w := enter_ok (c := Try.f111.body.getD .skip) Try.func111 (by decide) rfl
theorem cf112 : ∀ args w, (callFunc 112 args).run Try.prog w = .ok (.enter 112 args) w := enter_ok (c := Try.f112.body.getD .skip) Try.func112 (by decide) rfl
theorem cf113 : ∀ args w, (callFunc 113 args).run Try.prog w = .ok (.enter 113 args) w := enter_ok (c := Try.f113.body.getD .skip) Try.func113 (by decide) rfl
theorem cf114 : ∀ args w, (callFunc 114 args).run Try.prog w = .ok (.enter 114 args) w := enter_ok (c := Try.f114.body.getD .skip) Try.func114 (by decide) rfl
theorem cf115 : ∀ args w, (callFunc 115 args).run Try.prog w = .ok (.enter 115 args) w := enter_ok (c := Try.f115.body.getD .skip) Try.func115 (by decide) rfl
theorem cf116 : ∀ args w, (callFunc 116 args).run Try.prog w = .ok (.enter 116 args) w := enter_ok (c := Try.f116.body.getD .skip) Try.func116 (by decide) rfl
theorem cf117 : ∀ args w, (callFunc 117 args).run Try.prog w = .ok (.enter 117 args) w := enter_ok (c := Try.f117.body.getD .skip) Try.func117 (by decide) rfl
end Go.Proofs.Ytlbpgnimpcflaaa
