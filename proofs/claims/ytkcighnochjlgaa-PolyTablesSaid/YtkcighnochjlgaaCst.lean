/- Small facts of the seat's types. -/
import Derived.Test.YtkcighnochjlgaaE6
import Derived.Test.YtkcighnochjlgaaE5
namespace Go.Proofs.Ytkcighnochjlgaa
open Go.ChangeShapes Go.WideShapes Go.ChangeAt Go.RowKit
theorem sz0 : (Try.prog.info? 0).map (·.size) = some 1 := by kernel_rfl
theorem ce0 : Nat.blt 0 (Try.prog.cellsOf 0) = true := by kernel_rfl
theorem nf0 : ∃ i, Try.prog.info? 0 = some i := Option.isSome_iff_exists.1 (by kernel_rfl)
theorem sz1 : (Try.prog.info? 1).map (·.size) = some 1 := by kernel_rfl
theorem ce1 : Nat.blt 0 (Try.prog.cellsOf 1) = true := by kernel_rfl
theorem nf1 : ∃ i, Try.prog.info? 1 = some i := Option.isSome_iff_exists.1 (by kernel_rfl)
theorem sz2 : (Try.prog.info? 2).map (·.size) = some 1 := by kernel_rfl
theorem ce2 : Nat.blt 0 (Try.prog.cellsOf 2) = true := by kernel_rfl
theorem nf2 : ∃ i, Try.prog.info? 2 = some i := Option.isSome_iff_exists.1 (by kernel_rfl)
theorem zr2 : (Try.prog.info? 2).map (·.zero) = some (some (.int .i64 0)) := by kernel_rfl
theorem sz3 : (Try.prog.info? 3).map (·.size) = some 1 := by kernel_rfl
theorem ce3 : Nat.blt 0 (Try.prog.cellsOf 3) = true := by kernel_rfl
theorem nf3 : ∃ i, Try.prog.info? 3 = some i := Option.isSome_iff_exists.1 (by kernel_rfl)
theorem zr3 : (Try.prog.info? 3).map (·.zero) = some (some (.int .i64 0)) := by kernel_rfl
theorem sz4 : (Try.prog.info? 4).map (·.size) = some 1 := by kernel_rfl
theorem ce4 : Nat.blt 0 (Try.prog.cellsOf 4) = true := by kernel_rfl
theorem nf4 : ∃ i, Try.prog.info? 4 = some i := Option.isSome_iff_exists.1 (by kernel_rfl)
theorem zr4 : (Try.prog.info? 4).map (·.zero) = some (some (.bool false)) := by kernel_rfl
theorem sz5 : (Try.prog.info? 5).map (·.size) = some 1 := by kernel_rfl
theorem ce5 : Nat.blt 0 (Try.prog.cellsOf 5) = true := by kernel_rfl
theorem nf5 : ∃ i, Try.prog.info? 5 = some i := Option.isSome_iff_exists.1 (by kernel_rfl)
theorem zr5 : (Try.prog.info? 5).map (·.zero) = some (some (.int .u8 0)) := by kernel_rfl
theorem sz6 : (Try.prog.info? 6).map (·.size) = some 1 := by kernel_rfl
theorem ce6 : Nat.blt 0 (Try.prog.cellsOf 6) = true := by kernel_rfl
theorem nf6 : ∃ i, Try.prog.info? 6 = some i := Option.isSome_iff_exists.1 (by kernel_rfl)
theorem zr6 : (Try.prog.info? 6).map (·.zero) = some (some (.int .u8 0)) := by kernel_rfl
theorem sz7 : (Try.prog.info? 7).map (·.size) = some 4 := by kernel_rfl
theorem ce7 : Nat.blt 0 (Try.prog.cellsOf 7) = true := by kernel_rfl
theorem nf7 : ∃ i, Try.prog.info? 7 = some i := Option.isSome_iff_exists.1 (by kernel_rfl)
theorem zr7 : (Try.prog.info? 7).map (·.zero) = some (some (.agg [.int .i64 0, .int .i64 0, .bool false, .int .u8 0].toArray)) := by kernel_rfl
theorem st7 : StOf Try.prog 7 [(0, 1), (1, 1), (2, 1), (3, 1)] [.int .i64 0, .int .i64 0, .bool false, .int .u8 0] := ⟨_, Try.underlying7, by kernel_rfl, ⟨⟨rfl, by kernel_rfl⟩, ⟨rfl, by kernel_rfl⟩, ⟨rfl, by kernel_rfl⟩, ⟨rfl, by kernel_rfl⟩, trivial⟩⟩
theorem sz8 : (Try.prog.info? 8).map (·.size) = some 4 := by kernel_rfl
theorem ce8 : Nat.blt 0 (Try.prog.cellsOf 8) = true := by kernel_rfl
theorem nf8 : ∃ i, Try.prog.info? 8 = some i := Option.isSome_iff_exists.1 (by kernel_rfl)
theorem zr8 : (Try.prog.info? 8).map (·.zero) = some (some (.agg [.int .i64 0, .int .i64 0, .bool false, .int .u8 0].toArray)) := by kernel_rfl
theorem st8 : StOf Try.prog 8 [(0, 1), (1, 1), (2, 1), (3, 1)] [.int .i64 0, .int .i64 0, .bool false, .int .u8 0] := ⟨_, Try.underlying8, by kernel_rfl, ⟨⟨rfl, by kernel_rfl⟩, ⟨rfl, by kernel_rfl⟩, ⟨rfl, by kernel_rfl⟩, ⟨rfl, by kernel_rfl⟩, trivial⟩⟩
theorem sz9 : (Try.prog.info? 9).map (·.size) = some 1 := by kernel_rfl
theorem ce9 : Nat.blt 0 (Try.prog.cellsOf 9) = true := by kernel_rfl
theorem nf9 : ∃ i, Try.prog.info? 9 = some i := Option.isSome_iff_exists.1 (by kernel_rfl)
theorem zr9 : (Try.prog.info? 9).map (·.zero) = some (some (.string ⟨#[]⟩)) := by kernel_rfl
theorem sz10 : (Try.prog.info? 10).map (·.size) = some 1 := by kernel_rfl
theorem ce10 : Nat.blt 0 (Try.prog.cellsOf 10) = true := by kernel_rfl
theorem nf10 : ∃ i, Try.prog.info? 10 = some i := Option.isSome_iff_exists.1 (by kernel_rfl)
theorem zr10 : (Try.prog.info? 10).map (·.zero) = some (some (.string ⟨#[]⟩)) := by kernel_rfl
theorem sz11 : (Try.prog.info? 11).map (·.size) = some 1 := by kernel_rfl
theorem ce11 : Nat.blt 0 (Try.prog.cellsOf 11) = true := by kernel_rfl
theorem nf11 : ∃ i, Try.prog.info? 11 = some i := Option.isSome_iff_exists.1 (by kernel_rfl)
theorem zr11 : (Try.prog.info? 11).map (·.zero) = some (some (.string ⟨#[]⟩)) := by kernel_rfl
theorem sz12 : (Try.prog.info? 12).map (·.size) = some 1 := by kernel_rfl
theorem ce12 : Nat.blt 0 (Try.prog.cellsOf 12) = true := by kernel_rfl
theorem nf12 : ∃ i, Try.prog.info? 12 = some i := Option.isSome_iff_exists.1 (by kernel_rfl)
theorem zr12 : (Try.prog.info? 12).map (·.zero) = some (some (.int .u64 0)) := by kernel_rfl
theorem sz13 : (Try.prog.info? 13).map (·.size) = some 2 := by kernel_rfl
theorem ce13 : Nat.blt 0 (Try.prog.cellsOf 13) = true := by kernel_rfl
theorem nf13 : ∃ i, Try.prog.info? 13 = some i := Option.isSome_iff_exists.1 (by kernel_rfl)
theorem zr13 : (Try.prog.info? 13).map (·.zero) = some (some (.agg [.string ⟨#[]⟩, .int .u64 0].toArray)) := by kernel_rfl
theorem st13 : StOf Try.prog 13 [(0, 1), (1, 1)] [.string ⟨#[]⟩, .int .u64 0] := ⟨_, Try.underlying13, by kernel_rfl, ⟨⟨rfl, by kernel_rfl⟩, ⟨rfl, by kernel_rfl⟩, trivial⟩⟩
theorem sz14 : (Try.prog.info? 14).map (·.size) = some 2 := by kernel_rfl
theorem ce14 : Nat.blt 0 (Try.prog.cellsOf 14) = true := by kernel_rfl
theorem nf14 : ∃ i, Try.prog.info? 14 = some i := Option.isSome_iff_exists.1 (by kernel_rfl)
theorem zr14 : (Try.prog.info? 14).map (·.zero) = some (some (.agg [.string ⟨#[]⟩, .int .u64 0].toArray)) := by kernel_rfl
theorem st14 : StOf Try.prog 14 [(0, 1), (1, 1)] [.string ⟨#[]⟩, .int .u64 0] := ⟨_, Try.underlying14, by kernel_rfl, ⟨⟨rfl, by kernel_rfl⟩, ⟨rfl, by kernel_rfl⟩, trivial⟩⟩
theorem sz15 : (Try.prog.info? 15).map (·.size) = some 1 := by kernel_rfl
theorem ce15 : Nat.blt 0 (Try.prog.cellsOf 15) = true := by kernel_rfl
theorem nf15 : ∃ i, Try.prog.info? 15 = some i := Option.isSome_iff_exists.1 (by kernel_rfl)
theorem zr15 : (Try.prog.info? 15).map (·.zero) = some (some (.pointer none)) := by kernel_rfl
theorem sz16 : (Try.prog.info? 16).map (·.size) = some 1 := by kernel_rfl
theorem ce16 : Nat.blt 0 (Try.prog.cellsOf 16) = true := by kernel_rfl
theorem nf16 : ∃ i, Try.prog.info? 16 = some i := Option.isSome_iff_exists.1 (by kernel_rfl)
theorem zr16 : (Try.prog.info? 16).map (·.zero) = some (some (.pointer none)) := by kernel_rfl
theorem sz17 : (Try.prog.info? 17).map (·.size) = some 1 := by kernel_rfl
theorem ce17 : Nat.blt 0 (Try.prog.cellsOf 17) = true := by kernel_rfl
theorem nf17 : ∃ i, Try.prog.info? 17 = some i := Option.isSome_iff_exists.1 (by kernel_rfl)
theorem zr17 : (Try.prog.info? 17).map (·.zero) = some (some (.pointer none)) := by kernel_rfl
theorem sz18 : (Try.prog.info? 18).map (·.size) = some 1 := by kernel_rfl
theorem ce18 : Nat.blt 0 (Try.prog.cellsOf 18) = true := by kernel_rfl
theorem nf18 : ∃ i, Try.prog.info? 18 = some i := Option.isSome_iff_exists.1 (by kernel_rfl)
theorem zr18 : (Try.prog.info? 18).map (·.zero) = some (some (.agg [.pointer none].toArray)) := by kernel_rfl
theorem st18 : StOf Try.prog 18 [(0, 1)] [.pointer none] := ⟨_, Try.underlying18, by kernel_rfl, ⟨⟨rfl, by kernel_rfl⟩, trivial⟩⟩
theorem sz19 : (Try.prog.info? 19).map (·.size) = some 1 := by kernel_rfl
theorem ce19 : Nat.blt 0 (Try.prog.cellsOf 19) = true := by kernel_rfl
theorem nf19 : ∃ i, Try.prog.info? 19 = some i := Option.isSome_iff_exists.1 (by kernel_rfl)
theorem zr19 : (Try.prog.info? 19).map (·.zero) = some (some (.agg [.pointer none].toArray)) := by kernel_rfl
theorem st19 : StOf Try.prog 19 [(0, 1)] [.pointer none] := ⟨_, Try.underlying19, by kernel_rfl, ⟨⟨rfl, by kernel_rfl⟩, trivial⟩⟩
theorem sz20 : (Try.prog.info? 20).map (·.size) = some 1 := by kernel_rfl
theorem ce20 : Nat.blt 0 (Try.prog.cellsOf 20) = true := by kernel_rfl
theorem nf20 : ∃ i, Try.prog.info? 20 = some i := Option.isSome_iff_exists.1 (by kernel_rfl)
theorem sz21 : (Try.prog.info? 21).map (·.size) = some 1 := by kernel_rfl
theorem ce21 : Nat.blt 0 (Try.prog.cellsOf 21) = true := by kernel_rfl
theorem nf21 : ∃ i, Try.prog.info? 21 = some i := Option.isSome_iff_exists.1 (by kernel_rfl)
theorem zr21 : (Try.prog.info? 21).map (·.zero) = some (some (.int .i32 0)) := by kernel_rfl
theorem sz22 : (Try.prog.info? 22).map (·.size) = some 1 := by kernel_rfl
theorem ce22 : Nat.blt 0 (Try.prog.cellsOf 22) = true := by kernel_rfl
theorem nf22 : ∃ i, Try.prog.info? 22 = some i := Option.isSome_iff_exists.1 (by kernel_rfl)
theorem zr22 : (Try.prog.info? 22).map (·.zero) = some (some (.slice none 0 0)) := by kernel_rfl
theorem sz23 : (Try.prog.info? 23).map (·.size) = some 1 := by kernel_rfl
theorem ce23 : Nat.blt 0 (Try.prog.cellsOf 23) = true := by kernel_rfl
theorem nf23 : ∃ i, Try.prog.info? 23 = some i := Option.isSome_iff_exists.1 (by kernel_rfl)
theorem zr23 : (Try.prog.info? 23).map (·.zero) = some (some (.int .i64 0)) := by kernel_rfl
theorem sz24 : (Try.prog.info? 24).map (·.size) = some 1 := by kernel_rfl
theorem ce24 : Nat.blt 0 (Try.prog.cellsOf 24) = true := by kernel_rfl
theorem nf24 : ∃ i, Try.prog.info? 24 = some i := Option.isSome_iff_exists.1 (by kernel_rfl)
theorem sz25 : (Try.prog.info? 25).map (·.size) = some 1 := by kernel_rfl
theorem ce25 : Nat.blt 0 (Try.prog.cellsOf 25) = true := by kernel_rfl
theorem nf25 : ∃ i, Try.prog.info? 25 = some i := Option.isSome_iff_exists.1 (by kernel_rfl)
theorem sz26 : (Try.prog.info? 26).map (·.size) = some 1 := by kernel_rfl
theorem ce26 : Nat.blt 0 (Try.prog.cellsOf 26) = true := by kernel_rfl
theorem nf26 : ∃ i, Try.prog.info? 26 = some i := Option.isSome_iff_exists.1 (by kernel_rfl)
theorem sz27 : (Try.prog.info? 27).map (·.size) = some 1 := by kernel_rfl
theorem ce27 : Nat.blt 0 (Try.prog.cellsOf 27) = true := by kernel_rfl
theorem nf27 : ∃ i, Try.prog.info? 27 = some i := Option.isSome_iff_exists.1 (by kernel_rfl)
theorem sz28 : (Try.prog.info? 28).map (·.size) = some 1 := by kernel_rfl
theorem ce28 : Nat.blt 0 (Try.prog.cellsOf 28) = true := by kernel_rfl
theorem nf28 : ∃ i, Try.prog.info? 28 = some i := Option.isSome_iff_exists.1 (by kernel_rfl)
theorem sz29 : (Try.prog.info? 29).map (·.size) = some 1 := by kernel_rfl
theorem ce29 : Nat.blt 0 (Try.prog.cellsOf 29) = true := by kernel_rfl
theorem nf29 : ∃ i, Try.prog.info? 29 = some i := Option.isSome_iff_exists.1 (by kernel_rfl)
theorem sz30 : (Try.prog.info? 30).map (·.size) = some 1 := by kernel_rfl
theorem ce30 : Nat.blt 0 (Try.prog.cellsOf 30) = true := by kernel_rfl
theorem nf30 : ∃ i, Try.prog.info? 30 = some i := Option.isSome_iff_exists.1 (by kernel_rfl)
theorem sz31 : (Try.prog.info? 31).map (·.size) = some 1 := by kernel_rfl
theorem ce31 : Nat.blt 0 (Try.prog.cellsOf 31) = true := by kernel_rfl
theorem nf31 : ∃ i, Try.prog.info? 31 = some i := Option.isSome_iff_exists.1 (by kernel_rfl)
theorem sz32 : (Try.prog.info? 32).map (·.size) = some 1 := by kernel_rfl
theorem ce32 : Nat.blt 0 (Try.prog.cellsOf 32) = true := by kernel_rfl
theorem nf32 : ∃ i, Try.prog.info? 32 = some i := Option.isSome_iff_exists.1 (by kernel_rfl)
theorem sz33 : (Try.prog.info? 33).map (·.size) = some 1 := by kernel_rfl
theorem ce33 : Nat.blt 0 (Try.prog.cellsOf 33) = true := by kernel_rfl
theorem nf33 : ∃ i, Try.prog.info? 33 = some i := Option.isSome_iff_exists.1 (by kernel_rfl)
theorem sz34 : (Try.prog.info? 34).map (·.size) = some 1 := by kernel_rfl
theorem ce34 : Nat.blt 0 (Try.prog.cellsOf 34) = true := by kernel_rfl
theorem nf34 : ∃ i, Try.prog.info? 34 = some i := Option.isSome_iff_exists.1 (by kernel_rfl)
theorem sz35 : (Try.prog.info? 35).map (·.size) = some 1 := by kernel_rfl
theorem ce35 : Nat.blt 0 (Try.prog.cellsOf 35) = true := by kernel_rfl
theorem nf35 : ∃ i, Try.prog.info? 35 = some i := Option.isSome_iff_exists.1 (by kernel_rfl)
theorem sz36 : (Try.prog.info? 36).map (·.size) = some 1 := by kernel_rfl
theorem ce36 : Nat.blt 0 (Try.prog.cellsOf 36) = true := by kernel_rfl
theorem nf36 : ∃ i, Try.prog.info? 36 = some i := Option.isSome_iff_exists.1 (by kernel_rfl)
theorem zr36 : (Try.prog.info? 36).map (·.zero) = some (some (.slice none 0 0)) := by kernel_rfl
theorem sz37 : (Try.prog.info? 37).map (·.size) = some 1 := by kernel_rfl
theorem ce37 : Nat.blt 0 (Try.prog.cellsOf 37) = true := by kernel_rfl
theorem nf37 : ∃ i, Try.prog.info? 37 = some i := Option.isSome_iff_exists.1 (by kernel_rfl)
theorem zr37 : (Try.prog.info? 37).map (·.zero) = some (some (.slice none 0 0)) := by kernel_rfl
theorem sz38 : (Try.prog.info? 38).map (·.size) = some 1 := by kernel_rfl
theorem ce38 : Nat.blt 0 (Try.prog.cellsOf 38) = true := by kernel_rfl
theorem nf38 : ∃ i, Try.prog.info? 38 = some i := Option.isSome_iff_exists.1 (by kernel_rfl)
theorem sz39 : (Try.prog.info? 39).map (·.size) = some 1 := by kernel_rfl
theorem ce39 : Nat.blt 0 (Try.prog.cellsOf 39) = true := by kernel_rfl
theorem nf39 : ∃ i, Try.prog.info? 39 = some i := Option.isSome_iff_exists.1 (by kernel_rfl)
theorem sz40 : (Try.prog.info? 40).map (·.size) = some 1 := by kernel_rfl
theorem ce40 : Nat.blt 0 (Try.prog.cellsOf 40) = true := by kernel_rfl
theorem nf40 : ∃ i, Try.prog.info? 40 = some i := Option.isSome_iff_exists.1 (by kernel_rfl)
theorem sz41 : (Try.prog.info? 41).map (·.size) = some 1 := by kernel_rfl
theorem ce41 : Nat.blt 0 (Try.prog.cellsOf 41) = true := by kernel_rfl
theorem nf41 : ∃ i, Try.prog.info? 41 = some i := Option.isSome_iff_exists.1 (by kernel_rfl)
theorem sz42 : (Try.prog.info? 42).map (·.size) = some 1 := by kernel_rfl
theorem ce42 : Nat.blt 0 (Try.prog.cellsOf 42) = true := by kernel_rfl
theorem nf42 : ∃ i, Try.prog.info? 42 = some i := Option.isSome_iff_exists.1 (by kernel_rfl)
theorem sz43 : (Try.prog.info? 43).map (·.size) = some 1 := by kernel_rfl
theorem ce43 : Nat.blt 0 (Try.prog.cellsOf 43) = true := by kernel_rfl
theorem nf43 : ∃ i, Try.prog.info? 43 = some i := Option.isSome_iff_exists.1 (by kernel_rfl)
theorem zr43 : (Try.prog.info? 43).map (·.zero) = some (some (.slice none 0 0)) := by kernel_rfl
theorem sz44 : (Try.prog.info? 44).map (·.size) = some 1 := by kernel_rfl
theorem ce44 : Nat.blt 0 (Try.prog.cellsOf 44) = true := by kernel_rfl
theorem nf44 : ∃ i, Try.prog.info? 44 = some i := Option.isSome_iff_exists.1 (by kernel_rfl)
theorem sz45 : (Try.prog.info? 45).map (·.size) = some 1 := by kernel_rfl
theorem ce45 : Nat.blt 0 (Try.prog.cellsOf 45) = true := by kernel_rfl
theorem nf45 : ∃ i, Try.prog.info? 45 = some i := Option.isSome_iff_exists.1 (by kernel_rfl)
theorem sz46 : (Try.prog.info? 46).map (·.size) = some 1 := by kernel_rfl
theorem ce46 : Nat.blt 0 (Try.prog.cellsOf 46) = true := by kernel_rfl
theorem nf46 : ∃ i, Try.prog.info? 46 = some i := Option.isSome_iff_exists.1 (by kernel_rfl)
theorem sz47 : (Try.prog.info? 47).map (·.size) = some 1 := by kernel_rfl
theorem ce47 : Nat.blt 0 (Try.prog.cellsOf 47) = true := by kernel_rfl
theorem nf47 : ∃ i, Try.prog.info? 47 = some i := Option.isSome_iff_exists.1 (by kernel_rfl)
theorem sz48 : (Try.prog.info? 48).map (·.size) = some 1 := by kernel_rfl
theorem ce48 : Nat.blt 0 (Try.prog.cellsOf 48) = true := by kernel_rfl
theorem nf48 : ∃ i, Try.prog.info? 48 = some i := Option.isSome_iff_exists.1 (by kernel_rfl)
theorem sz49 : (Try.prog.info? 49).map (·.size) = some 1 := by kernel_rfl
theorem ce49 : Nat.blt 0 (Try.prog.cellsOf 49) = true := by kernel_rfl
theorem nf49 : ∃ i, Try.prog.info? 49 = some i := Option.isSome_iff_exists.1 (by kernel_rfl)
theorem zr49 : (Try.prog.info? 49).map (·.zero) = some (some (.slice none 0 0)) := by kernel_rfl
theorem sz50 : (Try.prog.info? 50).map (·.size) = some 2 := by kernel_rfl
theorem ce50 : Nat.blt 0 (Try.prog.cellsOf 50) = true := by kernel_rfl
theorem nf50 : ∃ i, Try.prog.info? 50 = some i := Option.isSome_iff_exists.1 (by kernel_rfl)
theorem zr50 : (Try.prog.info? 50).map (·.zero) = some (some (.agg [.slice none 0 0, .int .i64 0].toArray)) := by kernel_rfl
theorem st50 : StOf Try.prog 50 [(0, 1), (1, 1)] [.slice none 0 0, .int .i64 0] := ⟨_, Try.underlying50, by kernel_rfl, ⟨⟨rfl, by kernel_rfl⟩, ⟨rfl, by kernel_rfl⟩, trivial⟩⟩
theorem sz51 : (Try.prog.info? 51).map (·.size) = some 2 := by kernel_rfl
theorem ce51 : Nat.blt 0 (Try.prog.cellsOf 51) = true := by kernel_rfl
theorem nf51 : ∃ i, Try.prog.info? 51 = some i := Option.isSome_iff_exists.1 (by kernel_rfl)
theorem zr51 : (Try.prog.info? 51).map (·.zero) = some (some (.agg [.slice none 0 0, .int .i64 0].toArray)) := by kernel_rfl
theorem st51 : StOf Try.prog 51 [(0, 1), (1, 1)] [.slice none 0 0, .int .i64 0] := ⟨_, Try.underlying51, by kernel_rfl, ⟨⟨rfl, by kernel_rfl⟩, ⟨rfl, by kernel_rfl⟩, trivial⟩⟩
theorem sz52 : (Try.prog.info? 52).map (·.size) = some 1 := by kernel_rfl
theorem ce52 : Nat.blt 0 (Try.prog.cellsOf 52) = true := by kernel_rfl
theorem nf52 : ∃ i, Try.prog.info? 52 = some i := Option.isSome_iff_exists.1 (by kernel_rfl)
theorem sz53 : (Try.prog.info? 53).map (·.size) = some 1 := by kernel_rfl
theorem ce53 : Nat.blt 0 (Try.prog.cellsOf 53) = true := by kernel_rfl
theorem nf53 : ∃ i, Try.prog.info? 53 = some i := Option.isSome_iff_exists.1 (by kernel_rfl)
theorem sz54 : (Try.prog.info? 54).map (·.size) = some 1 := by kernel_rfl
theorem ce54 : Nat.blt 0 (Try.prog.cellsOf 54) = true := by kernel_rfl
theorem nf54 : ∃ i, Try.prog.info? 54 = some i := Option.isSome_iff_exists.1 (by kernel_rfl)
theorem sz55 : (Try.prog.info? 55).map (·.size) = some 1 := by kernel_rfl
theorem ce55 : Nat.blt 0 (Try.prog.cellsOf 55) = true := by kernel_rfl
theorem nf55 : ∃ i, Try.prog.info? 55 = some i := Option.isSome_iff_exists.1 (by kernel_rfl)
theorem sz56 : (Try.prog.info? 56).map (·.size) = some 1 := by kernel_rfl
theorem ce56 : Nat.blt 0 (Try.prog.cellsOf 56) = true := by kernel_rfl
theorem nf56 : ∃ i, Try.prog.info? 56 = some i := Option.isSome_iff_exists.1 (by kernel_rfl)
theorem sz57 : (Try.prog.info? 57).map (·.size) = some 1 := by kernel_rfl
theorem ce57 : Nat.blt 0 (Try.prog.cellsOf 57) = true := by kernel_rfl
theorem nf57 : ∃ i, Try.prog.info? 57 = some i := Option.isSome_iff_exists.1 (by kernel_rfl)
theorem sz58 : (Try.prog.info? 58).map (·.size) = some 1 := by kernel_rfl
theorem ce58 : Nat.blt 0 (Try.prog.cellsOf 58) = true := by kernel_rfl
theorem nf58 : ∃ i, Try.prog.info? 58 = some i := Option.isSome_iff_exists.1 (by kernel_rfl)
theorem sz59 : (Try.prog.info? 59).map (·.size) = some 1 := by kernel_rfl
theorem ce59 : Nat.blt 0 (Try.prog.cellsOf 59) = true := by kernel_rfl
theorem nf59 : ∃ i, Try.prog.info? 59 = some i := Option.isSome_iff_exists.1 (by kernel_rfl)
theorem sz60 : (Try.prog.info? 60).map (·.size) = some 1 := by kernel_rfl
theorem ce60 : Nat.blt 0 (Try.prog.cellsOf 60) = true := by kernel_rfl
theorem nf60 : ∃ i, Try.prog.info? 60 = some i := Option.isSome_iff_exists.1 (by kernel_rfl)
theorem sz61 : (Try.prog.info? 61).map (·.size) = some 1 := by kernel_rfl
theorem ce61 : Nat.blt 0 (Try.prog.cellsOf 61) = true := by kernel_rfl
theorem nf61 : ∃ i, Try.prog.info? 61 = some i := Option.isSome_iff_exists.1 (by kernel_rfl)
theorem sz62 : (Try.prog.info? 62).map (·.size) = some 1 := by kernel_rfl
theorem ce62 : Nat.blt 0 (Try.prog.cellsOf 62) = true := by kernel_rfl
theorem nf62 : ∃ i, Try.prog.info? 62 = some i := Option.isSome_iff_exists.1 (by kernel_rfl)
theorem sz63 : (Try.prog.info? 63).map (·.size) = some 1 := by kernel_rfl
theorem ce63 : Nat.blt 0 (Try.prog.cellsOf 63) = true := by kernel_rfl
theorem nf63 : ∃ i, Try.prog.info? 63 = some i := Option.isSome_iff_exists.1 (by kernel_rfl)
theorem sz64 : (Try.prog.info? 64).map (·.size) = some 1 := by kernel_rfl
theorem ce64 : Nat.blt 0 (Try.prog.cellsOf 64) = true := by kernel_rfl
theorem nf64 : ∃ i, Try.prog.info? 64 = some i := Option.isSome_iff_exists.1 (by kernel_rfl)
theorem sz65 : (Try.prog.info? 65).map (·.size) = some 1 := by kernel_rfl
theorem ce65 : Nat.blt 0 (Try.prog.cellsOf 65) = true := by kernel_rfl
theorem nf65 : ∃ i, Try.prog.info? 65 = some i := Option.isSome_iff_exists.1 (by kernel_rfl)
theorem sz66 : (Try.prog.info? 66).map (·.size) = some 1 := by kernel_rfl
theorem ce66 : Nat.blt 0 (Try.prog.cellsOf 66) = true := by kernel_rfl
theorem nf66 : ∃ i, Try.prog.info? 66 = some i := Option.isSome_iff_exists.1 (by kernel_rfl)
theorem sz67 : (Try.prog.info? 67).map (·.size) = some 1 := by kernel_rfl
theorem ce67 : Nat.blt 0 (Try.prog.cellsOf 67) = true := by kernel_rfl
theorem nf67 : ∃ i, Try.prog.info? 67 = some i := Option.isSome_iff_exists.1 (by kernel_rfl)
theorem sz68 : (Try.prog.info? 68).map (·.size) = some 1 := by kernel_rfl
theorem ce68 : Nat.blt 0 (Try.prog.cellsOf 68) = true := by kernel_rfl
theorem nf68 : ∃ i, Try.prog.info? 68 = some i := Option.isSome_iff_exists.1 (by kernel_rfl)
theorem sz69 : (Try.prog.info? 69).map (·.size) = some 1 := by kernel_rfl
theorem ce69 : Nat.blt 0 (Try.prog.cellsOf 69) = true := by kernel_rfl
theorem nf69 : ∃ i, Try.prog.info? 69 = some i := Option.isSome_iff_exists.1 (by kernel_rfl)
theorem zr69 : (Try.prog.info? 69).map (·.zero) = some (some (.slice none 0 0)) := by kernel_rfl
theorem sz70 : (Try.prog.info? 70).map (·.size) = some 1 := by kernel_rfl
theorem ce70 : Nat.blt 0 (Try.prog.cellsOf 70) = true := by kernel_rfl
theorem nf70 : ∃ i, Try.prog.info? 70 = some i := Option.isSome_iff_exists.1 (by kernel_rfl)
theorem sz71 : (Try.prog.info? 71).map (·.size) = some 1 := by kernel_rfl
theorem ce71 : Nat.blt 0 (Try.prog.cellsOf 71) = true := by kernel_rfl
theorem nf71 : ∃ i, Try.prog.info? 71 = some i := Option.isSome_iff_exists.1 (by kernel_rfl)
theorem sz72 : (Try.prog.info? 72).map (·.size) = some 1 := by kernel_rfl
theorem ce72 : Nat.blt 0 (Try.prog.cellsOf 72) = true := by kernel_rfl
theorem nf72 : ∃ i, Try.prog.info? 72 = some i := Option.isSome_iff_exists.1 (by kernel_rfl)
theorem sz73 : (Try.prog.info? 73).map (·.size) = some 1 := by kernel_rfl
theorem ce73 : Nat.blt 0 (Try.prog.cellsOf 73) = true := by kernel_rfl
theorem nf73 : ∃ i, Try.prog.info? 73 = some i := Option.isSome_iff_exists.1 (by kernel_rfl)
theorem sz74 : (Try.prog.info? 74).map (·.size) = some 1 := by kernel_rfl
theorem ce74 : Nat.blt 0 (Try.prog.cellsOf 74) = true := by kernel_rfl
theorem nf74 : ∃ i, Try.prog.info? 74 = some i := Option.isSome_iff_exists.1 (by kernel_rfl)
theorem sz75 : (Try.prog.info? 75).map (·.size) = some 1 := by kernel_rfl
theorem ce75 : Nat.blt 0 (Try.prog.cellsOf 75) = true := by kernel_rfl
theorem nf75 : ∃ i, Try.prog.info? 75 = some i := Option.isSome_iff_exists.1 (by kernel_rfl)
theorem sz76 : (Try.prog.info? 76).map (·.size) = some 1 := by kernel_rfl
theorem ce76 : Nat.blt 0 (Try.prog.cellsOf 76) = true := by kernel_rfl
theorem nf76 : ∃ i, Try.prog.info? 76 = some i := Option.isSome_iff_exists.1 (by kernel_rfl)
theorem sz77 : (Try.prog.info? 77).map (·.size) = some 1 := by kernel_rfl
theorem ce77 : Nat.blt 0 (Try.prog.cellsOf 77) = true := by kernel_rfl
theorem nf77 : ∃ i, Try.prog.info? 77 = some i := Option.isSome_iff_exists.1 (by kernel_rfl)
theorem sz78 : (Try.prog.info? 78).map (·.size) = some 1 := by kernel_rfl
theorem ce78 : Nat.blt 0 (Try.prog.cellsOf 78) = true := by kernel_rfl
theorem nf78 : ∃ i, Try.prog.info? 78 = some i := Option.isSome_iff_exists.1 (by kernel_rfl)
theorem sz79 : (Try.prog.info? 79).map (·.size) = some 1 := by kernel_rfl
theorem ce79 : Nat.blt 0 (Try.prog.cellsOf 79) = true := by kernel_rfl
theorem nf79 : ∃ i, Try.prog.info? 79 = some i := Option.isSome_iff_exists.1 (by kernel_rfl)
theorem sz80 : (Try.prog.info? 80).map (·.size) = some 1 := by kernel_rfl
theorem ce80 : Nat.blt 0 (Try.prog.cellsOf 80) = true := by kernel_rfl
theorem nf80 : ∃ i, Try.prog.info? 80 = some i := Option.isSome_iff_exists.1 (by kernel_rfl)
theorem sz81 : (Try.prog.info? 81).map (·.size) = some 1 := by kernel_rfl
theorem ce81 : Nat.blt 0 (Try.prog.cellsOf 81) = true := by kernel_rfl
theorem nf81 : ∃ i, Try.prog.info? 81 = some i := Option.isSome_iff_exists.1 (by kernel_rfl)
theorem sz82 : (Try.prog.info? 82).map (·.size) = some 1 := by kernel_rfl
theorem ce82 : Nat.blt 0 (Try.prog.cellsOf 82) = true := by kernel_rfl
theorem nf82 : ∃ i, Try.prog.info? 82 = some i := Option.isSome_iff_exists.1 (by kernel_rfl)
theorem sz83 : (Try.prog.info? 83).map (·.size) = some 1 := by kernel_rfl
theorem ce83 : Nat.blt 0 (Try.prog.cellsOf 83) = true := by kernel_rfl
theorem nf83 : ∃ i, Try.prog.info? 83 = some i := Option.isSome_iff_exists.1 (by kernel_rfl)
theorem sz84 : (Try.prog.info? 84).map (·.size) = some 1 := by kernel_rfl
theorem ce84 : Nat.blt 0 (Try.prog.cellsOf 84) = true := by kernel_rfl
theorem nf84 : ∃ i, Try.prog.info? 84 = some i := Option.isSome_iff_exists.1 (by kernel_rfl)
theorem sz85 : (Try.prog.info? 85).map (·.size) = some 1 := by kernel_rfl
theorem ce85 : Nat.blt 0 (Try.prog.cellsOf 85) = true := by kernel_rfl
theorem nf85 : ∃ i, Try.prog.info? 85 = some i := Option.isSome_iff_exists.1 (by kernel_rfl)
theorem sz86 : (Try.prog.info? 86).map (·.size) = some 1 := by kernel_rfl
theorem ce86 : Nat.blt 0 (Try.prog.cellsOf 86) = true := by kernel_rfl
theorem nf86 : ∃ i, Try.prog.info? 86 = some i := Option.isSome_iff_exists.1 (by kernel_rfl)
theorem zr86 : (Try.prog.info? 86).map (·.zero) = some (some (.map none)) := by kernel_rfl
theorem sz87 : (Try.prog.info? 87).map (·.size) = some 1 := by kernel_rfl
theorem ce87 : Nat.blt 0 (Try.prog.cellsOf 87) = true := by kernel_rfl
theorem nf87 : ∃ i, Try.prog.info? 87 = some i := Option.isSome_iff_exists.1 (by kernel_rfl)
theorem zr87 : (Try.prog.info? 87).map (·.zero) = some (some (.map none)) := by kernel_rfl
theorem sz88 : (Try.prog.info? 88).map (·.size) = some 2 := by kernel_rfl
theorem ce88 : Nat.blt 0 (Try.prog.cellsOf 88) = true := by kernel_rfl
theorem nf88 : ∃ i, Try.prog.info? 88 = some i := Option.isSome_iff_exists.1 (by kernel_rfl)
theorem zr88 : (Try.prog.info? 88).map (·.zero) = some (some (.agg [.int .i64 0, .int .i64 0].toArray)) := by kernel_rfl
theorem st88 : StOf Try.prog 88 [(0, 1), (1, 1)] [.int .i64 0, .int .i64 0] := ⟨_, Try.underlying88, by kernel_rfl, ⟨⟨rfl, by kernel_rfl⟩, ⟨rfl, by kernel_rfl⟩, trivial⟩⟩
theorem sz89 : (Try.prog.info? 89).map (·.size) = some 2 := by kernel_rfl
theorem ce89 : Nat.blt 0 (Try.prog.cellsOf 89) = true := by kernel_rfl
theorem nf89 : ∃ i, Try.prog.info? 89 = some i := Option.isSome_iff_exists.1 (by kernel_rfl)
theorem zr89 : (Try.prog.info? 89).map (·.zero) = some (some (.agg [.int .i64 0, .int .i64 0].toArray)) := by kernel_rfl
theorem st89 : StOf Try.prog 89 [(0, 1), (1, 1)] [.int .i64 0, .int .i64 0] := ⟨_, Try.underlying89, by kernel_rfl, ⟨⟨rfl, by kernel_rfl⟩, ⟨rfl, by kernel_rfl⟩, trivial⟩⟩
theorem sz90 : (Try.prog.info? 90).map (·.size) = some 1 := by kernel_rfl
theorem ce90 : Nat.blt 0 (Try.prog.cellsOf 90) = true := by kernel_rfl
theorem nf90 : ∃ i, Try.prog.info? 90 = some i := Option.isSome_iff_exists.1 (by kernel_rfl)
theorem sz91 : (Try.prog.info? 91).map (·.size) = some 1 := by kernel_rfl
theorem ce91 : Nat.blt 0 (Try.prog.cellsOf 91) = true := by kernel_rfl
theorem nf91 : ∃ i, Try.prog.info? 91 = some i := Option.isSome_iff_exists.1 (by kernel_rfl)
theorem sz92 : (Try.prog.info? 92).map (·.size) = some 1 := by kernel_rfl
theorem ce92 : Nat.blt 0 (Try.prog.cellsOf 92) = true := by kernel_rfl
theorem nf92 : ∃ i, Try.prog.info? 92 = some i := Option.isSome_iff_exists.1 (by kernel_rfl)
theorem sz93 : (Try.prog.info? 93).map (·.size) = some 1 := by kernel_rfl
theorem ce93 : Nat.blt 0 (Try.prog.cellsOf 93) = true := by kernel_rfl
theorem nf93 : ∃ i, Try.prog.info? 93 = some i := Option.isSome_iff_exists.1 (by kernel_rfl)
theorem zr93 : (Try.prog.info? 93).map (·.zero) = some (some (.slice none 0 0)) := by kernel_rfl
theorem sz94 : (Try.prog.info? 94).map (·.size) = some 1 := by kernel_rfl
theorem ce94 : Nat.blt 0 (Try.prog.cellsOf 94) = true := by kernel_rfl
theorem nf94 : ∃ i, Try.prog.info? 94 = some i := Option.isSome_iff_exists.1 (by kernel_rfl)
theorem zr94 : (Try.prog.info? 94).map (·.zero) = some (some (.slice none 0 0)) := by kernel_rfl
theorem sz95 : (Try.prog.info? 95).map (·.size) = some 2 := by kernel_rfl
theorem ce95 : Nat.blt 0 (Try.prog.cellsOf 95) = true := by kernel_rfl
theorem nf95 : ∃ i, Try.prog.info? 95 = some i := Option.isSome_iff_exists.1 (by kernel_rfl)
theorem zr95 : (Try.prog.info? 95).map (·.zero) = some (some (.agg [.map none, .map none].toArray)) := by kernel_rfl
theorem sz96 : (Try.prog.info? 96).map (·.size) = some 4 := by kernel_rfl
theorem ce96 : Nat.blt 0 (Try.prog.cellsOf 96) = true := by kernel_rfl
theorem nf96 : ∃ i, Try.prog.info? 96 = some i := Option.isSome_iff_exists.1 (by kernel_rfl)
theorem zr96 : (Try.prog.info? 96).map (·.zero) = some (some (.agg [.map none, .map none, .map none, .map none].toArray)) := by kernel_rfl
theorem sz97 : (Try.prog.info? 97).map (·.size) = some 1 := by kernel_rfl
theorem ce97 : Nat.blt 0 (Try.prog.cellsOf 97) = true := by kernel_rfl
theorem nf97 : ∃ i, Try.prog.info? 97 = some i := Option.isSome_iff_exists.1 (by kernel_rfl)
theorem sz98 : (Try.prog.info? 98).map (·.size) = some 1 := by kernel_rfl
theorem ce98 : Nat.blt 0 (Try.prog.cellsOf 98) = true := by kernel_rfl
theorem nf98 : ∃ i, Try.prog.info? 98 = some i := Option.isSome_iff_exists.1 (by kernel_rfl)
theorem sz99 : (Try.prog.info? 99).map (·.size) = some 1 := by kernel_rfl
theorem ce99 : Nat.blt 0 (Try.prog.cellsOf 99) = true := by kernel_rfl
theorem nf99 : ∃ i, Try.prog.info? 99 = some i := Option.isSome_iff_exists.1 (by kernel_rfl)
theorem sz100 : (Try.prog.info? 100).map (·.size) = some 1 := by kernel_rfl
theorem ce100 : Nat.blt 0 (Try.prog.cellsOf 100) = true := by kernel_rfl
theorem nf100 : ∃ i, Try.prog.info? 100 = some i := Option.isSome_iff_exists.1 (by kernel_rfl)
theorem sz101 : (Try.prog.info? 101).map (·.size) = some 1 := by kernel_rfl
theorem ce101 : Nat.blt 0 (Try.prog.cellsOf 101) = true := by kernel_rfl
theorem nf101 : ∃ i, Try.prog.info? 101 = some i := Option.isSome_iff_exists.1 (by kernel_rfl)
theorem sz102 : (Try.prog.info? 102).map (·.size) = some 1 := by kernel_rfl
theorem ce102 : Nat.blt 0 (Try.prog.cellsOf 102) = true := by kernel_rfl
theorem nf102 : ∃ i, Try.prog.info? 102 = some i := Option.isSome_iff_exists.1 (by kernel_rfl)
theorem sz103 : (Try.prog.info? 103).map (·.size) = some 1 := by kernel_rfl
theorem ce103 : Nat.blt 0 (Try.prog.cellsOf 103) = true := by kernel_rfl
theorem nf103 : ∃ i, Try.prog.info? 103 = some i := Option.isSome_iff_exists.1 (by kernel_rfl)
theorem sz104 : (Try.prog.info? 104).map (·.size) = some 1 := by kernel_rfl
theorem ce104 : Nat.blt 0 (Try.prog.cellsOf 104) = true := by kernel_rfl
theorem nf104 : ∃ i, Try.prog.info? 104 = some i := Option.isSome_iff_exists.1 (by kernel_rfl)
theorem sz105 : (Try.prog.info? 105).map (·.size) = some 1 := by kernel_rfl
theorem ce105 : Nat.blt 0 (Try.prog.cellsOf 105) = true := by kernel_rfl
theorem nf105 : ∃ i, Try.prog.info? 105 = some i := Option.isSome_iff_exists.1 (by kernel_rfl)
theorem zr105 : (Try.prog.info? 105).map (·.zero) = some (some (.pointer none)) := by kernel_rfl
theorem sz106 : (Try.prog.info? 106).map (·.size) = some 1 := by kernel_rfl
theorem ce106 : Nat.blt 0 (Try.prog.cellsOf 106) = true := by kernel_rfl
theorem nf106 : ∃ i, Try.prog.info? 106 = some i := Option.isSome_iff_exists.1 (by kernel_rfl)
theorem sz107 : (Try.prog.info? 107).map (·.size) = some 1 := by kernel_rfl
theorem ce107 : Nat.blt 0 (Try.prog.cellsOf 107) = true := by kernel_rfl
theorem nf107 : ∃ i, Try.prog.info? 107 = some i := Option.isSome_iff_exists.1 (by kernel_rfl)
theorem sz108 : (Try.prog.info? 108).map (·.size) = some 1 := by kernel_rfl
theorem ce108 : Nat.blt 0 (Try.prog.cellsOf 108) = true := by kernel_rfl
theorem nf108 : ∃ i, Try.prog.info? 108 = some i := Option.isSome_iff_exists.1 (by kernel_rfl)
theorem sz109 : (Try.prog.info? 109).map (·.size) = some 1 := by kernel_rfl
theorem ce109 : Nat.blt 0 (Try.prog.cellsOf 109) = true := by kernel_rfl
theorem nf109 : ∃ i, Try.prog.info? 109 = some i := Option.isSome_iff_exists.1 (by kernel_rfl)
theorem sz110 : (Try.prog.info? 110).map (·.size) = some 5 := by kernel_rfl
theorem ce110 : Nat.blt 0 (Try.prog.cellsOf 110) = true := by kernel_rfl
theorem nf110 : ∃ i, Try.prog.info? 110 = some i := Option.isSome_iff_exists.1 (by kernel_rfl)
theorem zr110 : (Try.prog.info? 110).map (·.zero) = some (some (.agg [.int .i64 0, .int .i64 0, .int .i64 0, .int .i64 0, .bool false].toArray)) := by kernel_rfl
theorem st110 : StOf Try.prog 110 [(0, 1), (1, 1), (2, 1), (3, 1), (4, 1)] [.int .i64 0, .int .i64 0, .int .i64 0, .int .i64 0, .bool false] := ⟨_, Try.underlying110, by kernel_rfl, ⟨⟨rfl, by kernel_rfl⟩, ⟨rfl, by kernel_rfl⟩, ⟨rfl, by kernel_rfl⟩, ⟨rfl, by kernel_rfl⟩, ⟨rfl, by kernel_rfl⟩, trivial⟩⟩
theorem sz111 : (Try.prog.info? 111).map (·.size) = some 5 := by kernel_rfl
theorem ce111 : Nat.blt 0 (Try.prog.cellsOf 111) = true := by kernel_rfl
theorem nf111 : ∃ i, Try.prog.info? 111 = some i := Option.isSome_iff_exists.1 (by kernel_rfl)
theorem zr111 : (Try.prog.info? 111).map (·.zero) = some (some (.agg [.int .i64 0, .int .i64 0, .int .i64 0, .int .i64 0, .bool false].toArray)) := by kernel_rfl
theorem st111 : StOf Try.prog 111 [(0, 1), (1, 1), (2, 1), (3, 1), (4, 1)] [.int .i64 0, .int .i64 0, .int .i64 0, .int .i64 0, .bool false] := ⟨_, Try.underlying111, by kernel_rfl, ⟨⟨rfl, by kernel_rfl⟩, ⟨rfl, by kernel_rfl⟩, ⟨rfl, by kernel_rfl⟩, ⟨rfl, by kernel_rfl⟩, ⟨rfl, by kernel_rfl⟩, trivial⟩⟩
theorem sz112 : (Try.prog.info? 112).map (·.size) = some 1 := by kernel_rfl
theorem ce112 : Nat.blt 0 (Try.prog.cellsOf 112) = true := by kernel_rfl
theorem nf112 : ∃ i, Try.prog.info? 112 = some i := Option.isSome_iff_exists.1 (by kernel_rfl)
theorem zr112 : (Try.prog.info? 112).map (·.zero) = some (some (.slice none 0 0)) := by kernel_rfl
theorem sz113 : (Try.prog.info? 113).map (·.size) = some 4 := by kernel_rfl
theorem ce113 : Nat.blt 0 (Try.prog.cellsOf 113) = true := by kernel_rfl
theorem nf113 : ∃ i, Try.prog.info? 113 = some i := Option.isSome_iff_exists.1 (by kernel_rfl)
theorem zr113 : (Try.prog.info? 113).map (·.zero) = some (some (.agg [.slice none 0 0, .int .i64 0, .slice none 0 0, .slice none 0 0].toArray)) := by kernel_rfl
theorem st113 : StOf Try.prog 113 [(0, 2), (2, 1), (3, 1)] [.slice none 0 0, .int .i64 0, .slice none 0 0, .slice none 0 0] := ⟨_, Try.underlying113, by kernel_rfl, ⟨⟨rfl, by kernel_rfl⟩, ⟨rfl, by kernel_rfl⟩, ⟨rfl, by kernel_rfl⟩, trivial⟩⟩
theorem sz114 : (Try.prog.info? 114).map (·.size) = some 4 := by kernel_rfl
theorem ce114 : Nat.blt 0 (Try.prog.cellsOf 114) = true := by kernel_rfl
theorem nf114 : ∃ i, Try.prog.info? 114 = some i := Option.isSome_iff_exists.1 (by kernel_rfl)
theorem zr114 : (Try.prog.info? 114).map (·.zero) = some (some (.agg [.slice none 0 0, .int .i64 0, .slice none 0 0, .slice none 0 0].toArray)) := by kernel_rfl
theorem st114 : StOf Try.prog 114 [(0, 2), (2, 1), (3, 1)] [.slice none 0 0, .int .i64 0, .slice none 0 0, .slice none 0 0] := ⟨_, Try.underlying114, by kernel_rfl, ⟨⟨rfl, by kernel_rfl⟩, ⟨rfl, by kernel_rfl⟩, ⟨rfl, by kernel_rfl⟩, trivial⟩⟩
theorem sz115 : (Try.prog.info? 115).map (·.size) = some 1 := by kernel_rfl
theorem ce115 : Nat.blt 0 (Try.prog.cellsOf 115) = true := by kernel_rfl
theorem nf115 : ∃ i, Try.prog.info? 115 = some i := Option.isSome_iff_exists.1 (by kernel_rfl)
theorem sz116 : (Try.prog.info? 116).map (·.size) = some 1 := by kernel_rfl
theorem ce116 : Nat.blt 0 (Try.prog.cellsOf 116) = true := by kernel_rfl
theorem nf116 : ∃ i, Try.prog.info? 116 = some i := Option.isSome_iff_exists.1 (by kernel_rfl)
theorem sz117 : (Try.prog.info? 117).map (·.size) = some 1 := by kernel_rfl
theorem ce117 : Nat.blt 0 (Try.prog.cellsOf 117) = true := by kernel_rfl
theorem nf117 : ∃ i, Try.prog.info? 117 = some i := Option.isSome_iff_exists.1 (by kernel_rfl)
theorem sz118 : (Try.prog.info? 118).map (·.size) = some 1 := by kernel_rfl
theorem ce118 : Nat.blt 0 (Try.prog.cellsOf 118) = true := by kernel_rfl
theorem nf118 : ∃ i, Try.prog.info? 118 = some i := Option.isSome_iff_exists.1 (by kernel_rfl)
theorem zr118 : (Try.prog.info? 118).map (·.zero) = some (some (.slice none 0 0)) := by kernel_rfl
theorem sz119 : (Try.prog.info? 119).map (·.size) = some 1 := by kernel_rfl
theorem ce119 : Nat.blt 0 (Try.prog.cellsOf 119) = true := by kernel_rfl
theorem nf119 : ∃ i, Try.prog.info? 119 = some i := Option.isSome_iff_exists.1 (by kernel_rfl)
theorem sz120 : (Try.prog.info? 120).map (·.size) = some 1 := by kernel_rfl
theorem ce120 : Nat.blt 0 (Try.prog.cellsOf 120) = true := by kernel_rfl
theorem nf120 : ∃ i, Try.prog.info? 120 = some i := Option.isSome_iff_exists.1 (by kernel_rfl)
theorem sz121 : (Try.prog.info? 121).map (·.size) = some 1 := by kernel_rfl
theorem ce121 : Nat.blt 0 (Try.prog.cellsOf 121) = true := by kernel_rfl
theorem nf121 : ∃ i, Try.prog.info? 121 = some i := Option.isSome_iff_exists.1 (by kernel_rfl)
theorem sz122 : (Try.prog.info? 122).map (·.size) = some 1 := by kernel_rfl
theorem ce122 : Nat.blt 0 (Try.prog.cellsOf 122) = true := by kernel_rfl
theorem nf122 : ∃ i, Try.prog.info? 122 = some i := Option.isSome_iff_exists.1 (by kernel_rfl)
theorem sz123 : (Try.prog.info? 123).map (·.size) = some 1 := by kernel_rfl
theorem ce123 : Nat.blt 0 (Try.prog.cellsOf 123) = true := by kernel_rfl
theorem nf123 : ∃ i, Try.prog.info? 123 = some i := Option.isSome_iff_exists.1 (by kernel_rfl)
theorem sz124 : (Try.prog.info? 124).map (·.size) = some 1 := by kernel_rfl
theorem ce124 : Nat.blt 0 (Try.prog.cellsOf 124) = true := by kernel_rfl
theorem nf124 : ∃ i, Try.prog.info? 124 = some i := Option.isSome_iff_exists.1 (by kernel_rfl)
theorem sz125 : (Try.prog.info? 125).map (·.size) = some 2 := by kernel_rfl
theorem ce125 : Nat.blt 0 (Try.prog.cellsOf 125) = true := by kernel_rfl
theorem nf125 : ∃ i, Try.prog.info? 125 = some i := Option.isSome_iff_exists.1 (by kernel_rfl)
theorem zr125 : (Try.prog.info? 125).map (·.zero) = some (some (.agg [.int .i64 0, .int .i64 0].toArray)) := by kernel_rfl
theorem st125 : StOf Try.prog 125 [(0, 1), (1, 1)] [.int .i64 0, .int .i64 0] := ⟨_, Try.underlying125, by kernel_rfl, ⟨⟨rfl, by kernel_rfl⟩, ⟨rfl, by kernel_rfl⟩, trivial⟩⟩
theorem sz126 : (Try.prog.info? 126).map (·.size) = some 2 := by kernel_rfl
theorem ce126 : Nat.blt 0 (Try.prog.cellsOf 126) = true := by kernel_rfl
theorem nf126 : ∃ i, Try.prog.info? 126 = some i := Option.isSome_iff_exists.1 (by kernel_rfl)
theorem zr126 : (Try.prog.info? 126).map (·.zero) = some (some (.agg [.int .i64 0, .int .i64 0].toArray)) := by kernel_rfl
theorem st126 : StOf Try.prog 126 [(0, 1), (1, 1)] [.int .i64 0, .int .i64 0] := ⟨_, Try.underlying126, by kernel_rfl, ⟨⟨rfl, by kernel_rfl⟩, ⟨rfl, by kernel_rfl⟩, trivial⟩⟩
theorem sz127 : (Try.prog.info? 127).map (·.size) = some 1 := by kernel_rfl
theorem ce127 : Nat.blt 0 (Try.prog.cellsOf 127) = true := by kernel_rfl
theorem nf127 : ∃ i, Try.prog.info? 127 = some i := Option.isSome_iff_exists.1 (by kernel_rfl)
theorem zr127 : (Try.prog.info? 127).map (·.zero) = some (some (.pointer none)) := by kernel_rfl
theorem sz128 : (Try.prog.info? 128).map (·.size) = some 1 := by kernel_rfl
theorem ce128 : Nat.blt 0 (Try.prog.cellsOf 128) = true := by kernel_rfl
theorem nf128 : ∃ i, Try.prog.info? 128 = some i := Option.isSome_iff_exists.1 (by kernel_rfl)
theorem zr128 : (Try.prog.info? 128).map (·.zero) = some (some (.slice none 0 0)) := by kernel_rfl
theorem sz129 : (Try.prog.info? 129).map (·.size) = some 2 := by kernel_rfl
theorem ce129 : Nat.blt 0 (Try.prog.cellsOf 129) = true := by kernel_rfl
theorem nf129 : ∃ i, Try.prog.info? 129 = some i := Option.isSome_iff_exists.1 (by kernel_rfl)
theorem zr129 : (Try.prog.info? 129).map (·.zero) = some (some (.agg [.slice none 0 0, .slice none 0 0].toArray)) := by kernel_rfl
theorem st129 : StOf Try.prog 129 [(0, 1), (1, 1)] [.slice none 0 0, .slice none 0 0] := ⟨_, Try.underlying129, by kernel_rfl, ⟨⟨rfl, by kernel_rfl⟩, ⟨rfl, by kernel_rfl⟩, trivial⟩⟩
theorem sz130 : (Try.prog.info? 130).map (·.size) = some 2 := by kernel_rfl
theorem ce130 : Nat.blt 0 (Try.prog.cellsOf 130) = true := by kernel_rfl
theorem nf130 : ∃ i, Try.prog.info? 130 = some i := Option.isSome_iff_exists.1 (by kernel_rfl)
theorem zr130 : (Try.prog.info? 130).map (·.zero) = some (some (.agg [.slice none 0 0, .slice none 0 0].toArray)) := by kernel_rfl
theorem st130 : StOf Try.prog 130 [(0, 1), (1, 1)] [.slice none 0 0, .slice none 0 0] := ⟨_, Try.underlying130, by kernel_rfl, ⟨⟨rfl, by kernel_rfl⟩, ⟨rfl, by kernel_rfl⟩, trivial⟩⟩
theorem sz131 : (Try.prog.info? 131).map (·.size) = some 3 := by kernel_rfl
theorem ce131 : Nat.blt 0 (Try.prog.cellsOf 131) = true := by kernel_rfl
theorem nf131 : ∃ i, Try.prog.info? 131 = some i := Option.isSome_iff_exists.1 (by kernel_rfl)
theorem zr131 : (Try.prog.info? 131).map (·.zero) = some (some (.agg [.int .i64 0, .int .i64 0, .int .i64 0].toArray)) := by kernel_rfl
theorem st131 : StOf Try.prog 131 [(0, 1), (1, 1), (2, 1)] [.int .i64 0, .int .i64 0, .int .i64 0] := ⟨_, Try.underlying131, by kernel_rfl, ⟨⟨rfl, by kernel_rfl⟩, ⟨rfl, by kernel_rfl⟩, ⟨rfl, by kernel_rfl⟩, trivial⟩⟩
theorem sz132 : (Try.prog.info? 132).map (·.size) = some 3 := by kernel_rfl
theorem ce132 : Nat.blt 0 (Try.prog.cellsOf 132) = true := by kernel_rfl
theorem nf132 : ∃ i, Try.prog.info? 132 = some i := Option.isSome_iff_exists.1 (by kernel_rfl)
theorem zr132 : (Try.prog.info? 132).map (·.zero) = some (some (.agg [.int .i64 0, .int .i64 0, .int .i64 0].toArray)) := by kernel_rfl
theorem st132 : StOf Try.prog 132 [(0, 1), (1, 1), (2, 1)] [.int .i64 0, .int .i64 0, .int .i64 0] := ⟨_, Try.underlying132, by kernel_rfl, ⟨⟨rfl, by kernel_rfl⟩, ⟨rfl, by kernel_rfl⟩, ⟨rfl, by kernel_rfl⟩, trivial⟩⟩
theorem sz133 : (Try.prog.info? 133).map (·.size) = some 1 := by kernel_rfl
theorem ce133 : Nat.blt 0 (Try.prog.cellsOf 133) = true := by kernel_rfl
theorem nf133 : ∃ i, Try.prog.info? 133 = some i := Option.isSome_iff_exists.1 (by kernel_rfl)
theorem sz134 : (Try.prog.info? 134).map (·.size) = some 1 := by kernel_rfl
theorem ce134 : Nat.blt 0 (Try.prog.cellsOf 134) = true := by kernel_rfl
theorem nf134 : ∃ i, Try.prog.info? 134 = some i := Option.isSome_iff_exists.1 (by kernel_rfl)
theorem sz135 : (Try.prog.info? 135).map (·.size) = some 1 := by kernel_rfl
theorem ce135 : Nat.blt 0 (Try.prog.cellsOf 135) = true := by kernel_rfl
theorem nf135 : ∃ i, Try.prog.info? 135 = some i := Option.isSome_iff_exists.1 (by kernel_rfl)
theorem zr135 : (Try.prog.info? 135).map (·.zero) = some (some (.pointer none)) := by kernel_rfl
theorem sz136 : (Try.prog.info? 136).map (·.size) = some 1 := by kernel_rfl
theorem ce136 : Nat.blt 0 (Try.prog.cellsOf 136) = true := by kernel_rfl
theorem nf136 : ∃ i, Try.prog.info? 136 = some i := Option.isSome_iff_exists.1 (by kernel_rfl)
theorem sz137 : (Try.prog.info? 137).map (·.size) = some 1 := by kernel_rfl
theorem ce137 : Nat.blt 0 (Try.prog.cellsOf 137) = true := by kernel_rfl
theorem nf137 : ∃ i, Try.prog.info? 137 = some i := Option.isSome_iff_exists.1 (by kernel_rfl)
theorem sz138 : (Try.prog.info? 138).map (·.size) = some 1 := by kernel_rfl
theorem ce138 : Nat.blt 0 (Try.prog.cellsOf 138) = true := by kernel_rfl
theorem nf138 : ∃ i, Try.prog.info? 138 = some i := Option.isSome_iff_exists.1 (by kernel_rfl)
theorem zr138 : (Try.prog.info? 138).map (·.zero) = some (some (.map none)) := by kernel_rfl
theorem sz139 : (Try.prog.info? 139).map (·.size) = some 3 := by kernel_rfl
theorem ce139 : Nat.blt 0 (Try.prog.cellsOf 139) = true := by kernel_rfl
theorem nf139 : ∃ i, Try.prog.info? 139 = some i := Option.isSome_iff_exists.1 (by kernel_rfl)
theorem zr139 : (Try.prog.info? 139).map (·.zero) = some (some (.agg [.pointer none, .map none, .slice none 0 0].toArray)) := by kernel_rfl
theorem st139 : StOf Try.prog 139 [(0, 1), (1, 1), (2, 1)] [.pointer none, .map none, .slice none 0 0] := ⟨_, Try.underlying139, by kernel_rfl, ⟨⟨rfl, by kernel_rfl⟩, ⟨rfl, by kernel_rfl⟩, ⟨rfl, by kernel_rfl⟩, trivial⟩⟩
theorem sz140 : (Try.prog.info? 140).map (·.size) = some 3 := by kernel_rfl
theorem ce140 : Nat.blt 0 (Try.prog.cellsOf 140) = true := by kernel_rfl
theorem nf140 : ∃ i, Try.prog.info? 140 = some i := Option.isSome_iff_exists.1 (by kernel_rfl)
theorem zr140 : (Try.prog.info? 140).map (·.zero) = some (some (.agg [.pointer none, .map none, .slice none 0 0].toArray)) := by kernel_rfl
theorem st140 : StOf Try.prog 140 [(0, 1), (1, 1), (2, 1)] [.pointer none, .map none, .slice none 0 0] := ⟨_, Try.underlying140, by kernel_rfl, ⟨⟨rfl, by kernel_rfl⟩, ⟨rfl, by kernel_rfl⟩, ⟨rfl, by kernel_rfl⟩, trivial⟩⟩
theorem sz141 : (Try.prog.info? 141).map (·.size) = some 1 := by kernel_rfl
theorem ce141 : Nat.blt 0 (Try.prog.cellsOf 141) = true := by kernel_rfl
theorem nf141 : ∃ i, Try.prog.info? 141 = some i := Option.isSome_iff_exists.1 (by kernel_rfl)
theorem sz142 : (Try.prog.info? 142).map (·.size) = some 1 := by kernel_rfl
theorem ce142 : Nat.blt 0 (Try.prog.cellsOf 142) = true := by kernel_rfl
theorem nf142 : ∃ i, Try.prog.info? 142 = some i := Option.isSome_iff_exists.1 (by kernel_rfl)
theorem zr142 : (Try.prog.info? 142).map (·.zero) = some (some (.slice none 0 0)) := by kernel_rfl
theorem sz143 : (Try.prog.info? 143).map (·.size) = some 1 := by kernel_rfl
theorem ce143 : Nat.blt 0 (Try.prog.cellsOf 143) = true := by kernel_rfl
theorem nf143 : ∃ i, Try.prog.info? 143 = some i := Option.isSome_iff_exists.1 (by kernel_rfl)
theorem sz144 : (Try.prog.info? 144).map (·.size) = some 1 := by kernel_rfl
theorem ce144 : Nat.blt 0 (Try.prog.cellsOf 144) = true := by kernel_rfl
theorem nf144 : ∃ i, Try.prog.info? 144 = some i := Option.isSome_iff_exists.1 (by kernel_rfl)
theorem sz145 : (Try.prog.info? 145).map (·.size) = some 1 := by kernel_rfl
theorem ce145 : Nat.blt 0 (Try.prog.cellsOf 145) = true := by kernel_rfl
theorem nf145 : ∃ i, Try.prog.info? 145 = some i := Option.isSome_iff_exists.1 (by kernel_rfl)
theorem sz146 : (Try.prog.info? 146).map (·.size) = some 1 := by kernel_rfl
theorem ce146 : Nat.blt 0 (Try.prog.cellsOf 146) = true := by kernel_rfl
theorem nf146 : ∃ i, Try.prog.info? 146 = some i := Option.isSome_iff_exists.1 (by kernel_rfl)
theorem sz147 : (Try.prog.info? 147).map (·.size) = some 1 := by kernel_rfl
theorem ce147 : Nat.blt 0 (Try.prog.cellsOf 147) = true := by kernel_rfl
theorem nf147 : ∃ i, Try.prog.info? 147 = some i := Option.isSome_iff_exists.1 (by kernel_rfl)
theorem sz148 : (Try.prog.info? 148).map (·.size) = some 1 := by kernel_rfl
theorem ce148 : Nat.blt 0 (Try.prog.cellsOf 148) = true := by kernel_rfl
theorem nf148 : ∃ i, Try.prog.info? 148 = some i := Option.isSome_iff_exists.1 (by kernel_rfl)
theorem sz149 : (Try.prog.info? 149).map (·.size) = some 1 := by kernel_rfl
theorem ce149 : Nat.blt 0 (Try.prog.cellsOf 149) = true := by kernel_rfl
theorem nf149 : ∃ i, Try.prog.info? 149 = some i := Option.isSome_iff_exists.1 (by kernel_rfl)
theorem sz150 : (Try.prog.info? 150).map (·.size) = some 1 := by kernel_rfl
theorem ce150 : Nat.blt 0 (Try.prog.cellsOf 150) = true := by kernel_rfl
theorem nf150 : ∃ i, Try.prog.info? 150 = some i := Option.isSome_iff_exists.1 (by kernel_rfl)
theorem sz151 : (Try.prog.info? 151).map (·.size) = some 1 := by kernel_rfl
theorem ce151 : Nat.blt 0 (Try.prog.cellsOf 151) = true := by kernel_rfl
theorem nf151 : ∃ i, Try.prog.info? 151 = some i := Option.isSome_iff_exists.1 (by kernel_rfl)
theorem sz152 : (Try.prog.info? 152).map (·.size) = some 1 := by kernel_rfl
theorem ce152 : Nat.blt 0 (Try.prog.cellsOf 152) = true := by kernel_rfl
theorem nf152 : ∃ i, Try.prog.info? 152 = some i := Option.isSome_iff_exists.1 (by kernel_rfl)
theorem sz153 : (Try.prog.info? 153).map (·.size) = some 1 := by kernel_rfl
theorem ce153 : Nat.blt 0 (Try.prog.cellsOf 153) = true := by kernel_rfl
theorem nf153 : ∃ i, Try.prog.info? 153 = some i := Option.isSome_iff_exists.1 (by kernel_rfl)
theorem sz154 : (Try.prog.info? 154).map (·.size) = some 1 := by kernel_rfl
theorem ce154 : Nat.blt 0 (Try.prog.cellsOf 154) = true := by kernel_rfl
theorem nf154 : ∃ i, Try.prog.info? 154 = some i := Option.isSome_iff_exists.1 (by kernel_rfl)
theorem sz155 : (Try.prog.info? 155).map (·.size) = some 1 := by kernel_rfl
theorem ce155 : Nat.blt 0 (Try.prog.cellsOf 155) = true := by kernel_rfl
theorem nf155 : ∃ i, Try.prog.info? 155 = some i := Option.isSome_iff_exists.1 (by kernel_rfl)
theorem zr155 : (Try.prog.info? 155).map (·.zero) = some (some (.int .u64 0)) := by kernel_rfl
theorem sz156 : (Try.prog.info? 156).map (·.size) = some 1 := by kernel_rfl
theorem ce156 : Nat.blt 0 (Try.prog.cellsOf 156) = true := by kernel_rfl
theorem nf156 : ∃ i, Try.prog.info? 156 = some i := Option.isSome_iff_exists.1 (by kernel_rfl)
theorem sz157 : (Try.prog.info? 157).map (·.size) = some 1 := by kernel_rfl
theorem ce157 : Nat.blt 0 (Try.prog.cellsOf 157) = true := by kernel_rfl
theorem nf157 : ∃ i, Try.prog.info? 157 = some i := Option.isSome_iff_exists.1 (by kernel_rfl)
theorem sz158 : (Try.prog.info? 158).map (·.size) = some 1 := by kernel_rfl
theorem ce158 : Nat.blt 0 (Try.prog.cellsOf 158) = true := by kernel_rfl
theorem nf158 : ∃ i, Try.prog.info? 158 = some i := Option.isSome_iff_exists.1 (by kernel_rfl)
theorem sz159 : (Try.prog.info? 159).map (·.size) = some 1 := by kernel_rfl
theorem ce159 : Nat.blt 0 (Try.prog.cellsOf 159) = true := by kernel_rfl
theorem nf159 : ∃ i, Try.prog.info? 159 = some i := Option.isSome_iff_exists.1 (by kernel_rfl)
theorem sz160 : (Try.prog.info? 160).map (·.size) = some 1 := by kernel_rfl
theorem ce160 : Nat.blt 0 (Try.prog.cellsOf 160) = true := by kernel_rfl
theorem nf160 : ∃ i, Try.prog.info? 160 = some i := Option.isSome_iff_exists.1 (by kernel_rfl)
theorem sz161 : (Try.prog.info? 161).map (·.size) = some 1 := by kernel_rfl
theorem ce161 : Nat.blt 0 (Try.prog.cellsOf 161) = true := by kernel_rfl
theorem nf161 : ∃ i, Try.prog.info? 161 = some i := Option.isSome_iff_exists.1 (by kernel_rfl)
theorem sz162 : (Try.prog.info? 162).map (·.size) = some 1 := by kernel_rfl
theorem ce162 : Nat.blt 0 (Try.prog.cellsOf 162) = true := by kernel_rfl
theorem nf162 : ∃ i, Try.prog.info? 162 = some i := Option.isSome_iff_exists.1 (by kernel_rfl)
theorem sz163 : (Try.prog.info? 163).map (·.size) = some 1 := by kernel_rfl
theorem ce163 : Nat.blt 0 (Try.prog.cellsOf 163) = true := by kernel_rfl
theorem nf163 : ∃ i, Try.prog.info? 163 = some i := Option.isSome_iff_exists.1 (by kernel_rfl)
theorem sz164 : (Try.prog.info? 164).map (·.size) = some 1 := by kernel_rfl
theorem ce164 : Nat.blt 0 (Try.prog.cellsOf 164) = true := by kernel_rfl
theorem nf164 : ∃ i, Try.prog.info? 164 = some i := Option.isSome_iff_exists.1 (by kernel_rfl)
theorem sz165 : (Try.prog.info? 165).map (·.size) = some 1 := by kernel_rfl
theorem ce165 : Nat.blt 0 (Try.prog.cellsOf 165) = true := by kernel_rfl
theorem nf165 : ∃ i, Try.prog.info? 165 = some i := Option.isSome_iff_exists.1 (by kernel_rfl)
theorem sz166 : (Try.prog.info? 166).map (·.size) = some 2 := by kernel_rfl
theorem ce166 : Nat.blt 0 (Try.prog.cellsOf 166) = true := by kernel_rfl
theorem nf166 : ∃ i, Try.prog.info? 166 = some i := Option.isSome_iff_exists.1 (by kernel_rfl)
theorem zr166 : (Try.prog.info? 166).map (·.zero) = some (some (.agg [.int .i64 0, .bool false].toArray)) := by kernel_rfl
theorem st166 : StOf Try.prog 166 [(0, 1), (1, 1)] [.int .i64 0, .bool false] := ⟨_, Try.underlying166, by kernel_rfl, ⟨⟨rfl, by kernel_rfl⟩, ⟨rfl, by kernel_rfl⟩, trivial⟩⟩
theorem sz167 : (Try.prog.info? 167).map (·.size) = some 2 := by kernel_rfl
theorem ce167 : Nat.blt 0 (Try.prog.cellsOf 167) = true := by kernel_rfl
theorem nf167 : ∃ i, Try.prog.info? 167 = some i := Option.isSome_iff_exists.1 (by kernel_rfl)
theorem zr167 : (Try.prog.info? 167).map (·.zero) = some (some (.agg [.int .i64 0, .bool false].toArray)) := by kernel_rfl
theorem st167 : StOf Try.prog 167 [(0, 1), (1, 1)] [.int .i64 0, .bool false] := ⟨_, Try.underlying167, by kernel_rfl, ⟨⟨rfl, by kernel_rfl⟩, ⟨rfl, by kernel_rfl⟩, trivial⟩⟩
theorem sz168 : (Try.prog.info? 168).map (·.size) = some 1 := by kernel_rfl
theorem ce168 : Nat.blt 0 (Try.prog.cellsOf 168) = true := by kernel_rfl
theorem nf168 : ∃ i, Try.prog.info? 168 = some i := Option.isSome_iff_exists.1 (by kernel_rfl)
theorem zr168 : (Try.prog.info? 168).map (·.zero) = some (some (.slice none 0 0)) := by kernel_rfl
theorem sz169 : (Try.prog.info? 169).map (·.size) = some 1 := by kernel_rfl
theorem ce169 : Nat.blt 0 (Try.prog.cellsOf 169) = true := by kernel_rfl
theorem nf169 : ∃ i, Try.prog.info? 169 = some i := Option.isSome_iff_exists.1 (by kernel_rfl)
theorem sz170 : (Try.prog.info? 170).map (·.size) = some 1 := by kernel_rfl
theorem ce170 : Nat.blt 0 (Try.prog.cellsOf 170) = true := by kernel_rfl
theorem nf170 : ∃ i, Try.prog.info? 170 = some i := Option.isSome_iff_exists.1 (by kernel_rfl)
theorem sz171 : (Try.prog.info? 171).map (·.size) = some 1 := by kernel_rfl
theorem ce171 : Nat.blt 0 (Try.prog.cellsOf 171) = true := by kernel_rfl
theorem nf171 : ∃ i, Try.prog.info? 171 = some i := Option.isSome_iff_exists.1 (by kernel_rfl)
theorem zr171 : (Try.prog.info? 171).map (·.zero) = some (some (.map none)) := by kernel_rfl
theorem sz172 : (Try.prog.info? 172).map (·.size) = some 1 := by kernel_rfl
theorem ce172 : Nat.blt 0 (Try.prog.cellsOf 172) = true := by kernel_rfl
theorem nf172 : ∃ i, Try.prog.info? 172 = some i := Option.isSome_iff_exists.1 (by kernel_rfl)
theorem sz173 : (Try.prog.info? 173).map (·.size) = some 2 := by kernel_rfl
theorem ce173 : Nat.blt 0 (Try.prog.cellsOf 173) = true := by kernel_rfl
theorem nf173 : ∃ i, Try.prog.info? 173 = some i := Option.isSome_iff_exists.1 (by kernel_rfl)
theorem zr173 : (Try.prog.info? 173).map (·.zero) = some (some (.agg [.int .i64 0, .int .i64 0].toArray)) := by kernel_rfl
theorem sz174 : (Try.prog.info? 174).map (·.size) = some 4 := by kernel_rfl
theorem ce174 : Nat.blt 0 (Try.prog.cellsOf 174) = true := by kernel_rfl
theorem nf174 : ∃ i, Try.prog.info? 174 = some i := Option.isSome_iff_exists.1 (by kernel_rfl)
theorem zr174 : (Try.prog.info? 174).map (·.zero) = some (some (.agg [.int .i64 0, .int .i64 0, .int .i64 0, .int .i64 0].toArray)) := by kernel_rfl
theorem sz175 : (Try.prog.info? 175).map (·.size) = some 1 := by kernel_rfl
theorem ce175 : Nat.blt 0 (Try.prog.cellsOf 175) = true := by kernel_rfl
theorem nf175 : ∃ i, Try.prog.info? 175 = some i := Option.isSome_iff_exists.1 (by kernel_rfl)
theorem sz176 : (Try.prog.info? 176).map (·.size) = some 1 := by kernel_rfl
theorem ce176 : Nat.blt 0 (Try.prog.cellsOf 176) = true := by kernel_rfl
theorem nf176 : ∃ i, Try.prog.info? 176 = some i := Option.isSome_iff_exists.1 (by kernel_rfl)
theorem sz177 : (Try.prog.info? 177).map (·.size) = some 4 := by kernel_rfl
theorem ce177 : Nat.blt 0 (Try.prog.cellsOf 177) = true := by kernel_rfl
theorem nf177 : ∃ i, Try.prog.info? 177 = some i := Option.isSome_iff_exists.1 (by kernel_rfl)
theorem zr177 : (Try.prog.info? 177).map (·.zero) = some (some (.agg [.bool false, .bool false, .bool false, .bool false].toArray)) := by kernel_rfl
theorem sz178 : (Try.prog.info? 178).map (·.size) = some 1 := by kernel_rfl
theorem ce178 : Nat.blt 0 (Try.prog.cellsOf 178) = true := by kernel_rfl
theorem nf178 : ∃ i, Try.prog.info? 178 = some i := Option.isSome_iff_exists.1 (by kernel_rfl)
theorem sz179 : (Try.prog.info? 179).map (·.size) = some 1 := by kernel_rfl
theorem ce179 : Nat.blt 0 (Try.prog.cellsOf 179) = true := by kernel_rfl
theorem nf179 : ∃ i, Try.prog.info? 179 = some i := Option.isSome_iff_exists.1 (by kernel_rfl)
theorem sz180 : (Try.prog.info? 180).map (·.size) = some 1 := by kernel_rfl
theorem ce180 : Nat.blt 0 (Try.prog.cellsOf 180) = true := by kernel_rfl
theorem nf180 : ∃ i, Try.prog.info? 180 = some i := Option.isSome_iff_exists.1 (by kernel_rfl)
theorem sz181 : (Try.prog.info? 181).map (·.size) = some 1 := by kernel_rfl
theorem ce181 : Nat.blt 0 (Try.prog.cellsOf 181) = true := by kernel_rfl
theorem nf181 : ∃ i, Try.prog.info? 181 = some i := Option.isSome_iff_exists.1 (by kernel_rfl)
theorem sz182 : (Try.prog.info? 182).map (·.size) = some 1 := by kernel_rfl
theorem ce182 : Nat.blt 0 (Try.prog.cellsOf 182) = true := by kernel_rfl
theorem nf182 : ∃ i, Try.prog.info? 182 = some i := Option.isSome_iff_exists.1 (by kernel_rfl)
theorem sz183 : (Try.prog.info? 183).map (·.size) = some 1 := by kernel_rfl
theorem ce183 : Nat.blt 0 (Try.prog.cellsOf 183) = true := by kernel_rfl
theorem nf183 : ∃ i, Try.prog.info? 183 = some i := Option.isSome_iff_exists.1 (by kernel_rfl)
theorem sz184 : (Try.prog.info? 184).map (·.size) = some 1 := by kernel_rfl
theorem ce184 : Nat.blt 0 (Try.prog.cellsOf 184) = true := by kernel_rfl
theorem nf184 : ∃ i, Try.prog.info? 184 = some i := Option.isSome_iff_exists.1 (by kernel_rfl)
theorem sz185 : (Try.prog.info? 185).map (·.size) = some 1 := by kernel_rfl
theorem ce185 : Nat.blt 0 (Try.prog.cellsOf 185) = true := by kernel_rfl
theorem nf185 : ∃ i, Try.prog.info? 185 = some i := Option.isSome_iff_exists.1 (by kernel_rfl)
theorem sz186 : (Try.prog.info? 186).map (·.size) = some 1 := by kernel_rfl
theorem ce186 : Nat.blt 0 (Try.prog.cellsOf 186) = true := by kernel_rfl
theorem nf186 : ∃ i, Try.prog.info? 186 = some i := Option.isSome_iff_exists.1 (by kernel_rfl)
theorem sz187 : (Try.prog.info? 187).map (·.size) = some 1 := by kernel_rfl
theorem ce187 : Nat.blt 0 (Try.prog.cellsOf 187) = true := by kernel_rfl
theorem nf187 : ∃ i, Try.prog.info? 187 = some i := Option.isSome_iff_exists.1 (by kernel_rfl)
theorem sz188 : (Try.prog.info? 188).map (·.size) = some 1 := by kernel_rfl
theorem ce188 : Nat.blt 0 (Try.prog.cellsOf 188) = true := by kernel_rfl
theorem nf188 : ∃ i, Try.prog.info? 188 = some i := Option.isSome_iff_exists.1 (by kernel_rfl)
theorem sz189 : (Try.prog.info? 189).map (·.size) = some 1 := by kernel_rfl
theorem ce189 : Nat.blt 0 (Try.prog.cellsOf 189) = true := by kernel_rfl
theorem nf189 : ∃ i, Try.prog.info? 189 = some i := Option.isSome_iff_exists.1 (by kernel_rfl)
theorem sz190 : (Try.prog.info? 190).map (·.size) = some 1 := by kernel_rfl
theorem ce190 : Nat.blt 0 (Try.prog.cellsOf 190) = true := by kernel_rfl
theorem nf190 : ∃ i, Try.prog.info? 190 = some i := Option.isSome_iff_exists.1 (by kernel_rfl)
theorem sz191 : (Try.prog.info? 191).map (·.size) = some 1 := by kernel_rfl
theorem ce191 : Nat.blt 0 (Try.prog.cellsOf 191) = true := by kernel_rfl
theorem nf191 : ∃ i, Try.prog.info? 191 = some i := Option.isSome_iff_exists.1 (by kernel_rfl)
theorem sz192 : (Try.prog.info? 192).map (·.size) = some 1 := by kernel_rfl
theorem ce192 : Nat.blt 0 (Try.prog.cellsOf 192) = true := by kernel_rfl
theorem nf192 : ∃ i, Try.prog.info? 192 = some i := Option.isSome_iff_exists.1 (by kernel_rfl)
theorem zr192 : (Try.prog.info? 192).map (·.zero) = some (some (.int .u32 0)) := by kernel_rfl
theorem sz193 : (Try.prog.info? 193).map (·.size) = some 1 := by kernel_rfl
theorem ce193 : Nat.blt 0 (Try.prog.cellsOf 193) = true := by kernel_rfl
theorem nf193 : ∃ i, Try.prog.info? 193 = some i := Option.isSome_iff_exists.1 (by kernel_rfl)
theorem sz194 : (Try.prog.info? 194).map (·.size) = some 1 := by kernel_rfl
theorem ce194 : Nat.blt 0 (Try.prog.cellsOf 194) = true := by kernel_rfl
theorem nf194 : ∃ i, Try.prog.info? 194 = some i := Option.isSome_iff_exists.1 (by kernel_rfl)
theorem zr194 : (Try.prog.info? 194).map (·.zero) = some (some (.int .u64 0)) := by kernel_rfl
theorem sz195 : (Try.prog.info? 195).map (·.size) = some 2 := by kernel_rfl
theorem ce195 : Nat.blt 0 (Try.prog.cellsOf 195) = true := by kernel_rfl
theorem nf195 : ∃ i, Try.prog.info? 195 = some i := Option.isSome_iff_exists.1 (by kernel_rfl)
theorem zr195 : (Try.prog.info? 195).map (·.zero) = some (some (.agg [.int .i64 0, .int .i64 0].toArray)) := by kernel_rfl
theorem st195 : StOf Try.prog 195 [(0, 1), (1, 1)] [.int .i64 0, .int .i64 0] := ⟨_, Try.underlying195, by kernel_rfl, ⟨⟨rfl, by kernel_rfl⟩, ⟨rfl, by kernel_rfl⟩, trivial⟩⟩
theorem sz196 : (Try.prog.info? 196).map (·.size) = some 2 := by kernel_rfl
theorem ce196 : Nat.blt 0 (Try.prog.cellsOf 196) = true := by kernel_rfl
theorem nf196 : ∃ i, Try.prog.info? 196 = some i := Option.isSome_iff_exists.1 (by kernel_rfl)
theorem zr196 : (Try.prog.info? 196).map (·.zero) = some (some (.agg [.int .i64 0, .int .i64 0].toArray)) := by kernel_rfl
theorem st196 : StOf Try.prog 196 [(0, 1), (1, 1)] [.int .i64 0, .int .i64 0] := ⟨_, Try.underlying196, by kernel_rfl, ⟨⟨rfl, by kernel_rfl⟩, ⟨rfl, by kernel_rfl⟩, trivial⟩⟩
theorem sz197 : (Try.prog.info? 197).map (·.size) = some 1 := by kernel_rfl
theorem ce197 : Nat.blt 0 (Try.prog.cellsOf 197) = true := by kernel_rfl
theorem nf197 : ∃ i, Try.prog.info? 197 = some i := Option.isSome_iff_exists.1 (by kernel_rfl)
theorem sz198 : (Try.prog.info? 198).map (·.size) = some 1 := by kernel_rfl
theorem ce198 : Nat.blt 0 (Try.prog.cellsOf 198) = true := by kernel_rfl
theorem nf198 : ∃ i, Try.prog.info? 198 = some i := Option.isSome_iff_exists.1 (by kernel_rfl)
theorem sz199 : (Try.prog.info? 199).map (·.size) = some 1 := by kernel_rfl
theorem ce199 : Nat.blt 0 (Try.prog.cellsOf 199) = true := by kernel_rfl
theorem nf199 : ∃ i, Try.prog.info? 199 = some i := Option.isSome_iff_exists.1 (by kernel_rfl)
theorem sz200 : (Try.prog.info? 200).map (·.size) = some 4 := by kernel_rfl
theorem ce200 : Nat.blt 0 (Try.prog.cellsOf 200) = true := by kernel_rfl
theorem nf200 : ∃ i, Try.prog.info? 200 = some i := Option.isSome_iff_exists.1 (by kernel_rfl)
theorem zr200 : (Try.prog.info? 200).map (·.zero) = some (some (.agg [.int .i64 0, .int .i64 0, .int .i64 0, .int .i64 0].toArray)) := by kernel_rfl
theorem sz201 : (Try.prog.info? 201).map (·.size) = some 1 := by kernel_rfl
theorem ce201 : Nat.blt 0 (Try.prog.cellsOf 201) = true := by kernel_rfl
theorem nf201 : ∃ i, Try.prog.info? 201 = some i := Option.isSome_iff_exists.1 (by kernel_rfl)
theorem zr201 : (Try.prog.info? 201).map (·.zero) = some (some (.pointer none)) := by kernel_rfl
theorem sz202 : (Try.prog.info? 202).map (·.size) = some 1 := by kernel_rfl
theorem ce202 : Nat.blt 0 (Try.prog.cellsOf 202) = true := by kernel_rfl
theorem nf202 : ∃ i, Try.prog.info? 202 = some i := Option.isSome_iff_exists.1 (by kernel_rfl)
theorem sz203 : (Try.prog.info? 203).map (·.size) = some 1 := by kernel_rfl
theorem ce203 : Nat.blt 0 (Try.prog.cellsOf 203) = true := by kernel_rfl
theorem nf203 : ∃ i, Try.prog.info? 203 = some i := Option.isSome_iff_exists.1 (by kernel_rfl)
theorem sz204 : (Try.prog.info? 204).map (·.size) = some 1 := by kernel_rfl
theorem ce204 : Nat.blt 0 (Try.prog.cellsOf 204) = true := by kernel_rfl
theorem nf204 : ∃ i, Try.prog.info? 204 = some i := Option.isSome_iff_exists.1 (by kernel_rfl)
theorem sz205 : (Try.prog.info? 205).map (·.size) = some 1 := by kernel_rfl
theorem ce205 : Nat.blt 0 (Try.prog.cellsOf 205) = true := by kernel_rfl
theorem nf205 : ∃ i, Try.prog.info? 205 = some i := Option.isSome_iff_exists.1 (by kernel_rfl)
theorem sz206 : (Try.prog.info? 206).map (·.size) = some 1 := by kernel_rfl
theorem ce206 : Nat.blt 0 (Try.prog.cellsOf 206) = true := by kernel_rfl
theorem nf206 : ∃ i, Try.prog.info? 206 = some i := Option.isSome_iff_exists.1 (by kernel_rfl)
theorem sz207 : (Try.prog.info? 207).map (·.size) = some 1 := by kernel_rfl
theorem ce207 : Nat.blt 0 (Try.prog.cellsOf 207) = true := by kernel_rfl
theorem nf207 : ∃ i, Try.prog.info? 207 = some i := Option.isSome_iff_exists.1 (by kernel_rfl)
theorem sz208 : (Try.prog.info? 208).map (·.size) = some 1 := by kernel_rfl
theorem ce208 : Nat.blt 0 (Try.prog.cellsOf 208) = true := by kernel_rfl
theorem nf208 : ∃ i, Try.prog.info? 208 = some i := Option.isSome_iff_exists.1 (by kernel_rfl)
theorem zr208 : (Try.prog.info? 208).map (·.zero) = some (some (.map none)) := by kernel_rfl
theorem sz209 : (Try.prog.info? 209).map (·.size) = some 1 := by kernel_rfl
theorem ce209 : Nat.blt 0 (Try.prog.cellsOf 209) = true := by kernel_rfl
theorem nf209 : ∃ i, Try.prog.info? 209 = some i := Option.isSome_iff_exists.1 (by kernel_rfl)
theorem sz210 : (Try.prog.info? 210).map (·.size) = some 1 := by kernel_rfl
theorem ce210 : Nat.blt 0 (Try.prog.cellsOf 210) = true := by kernel_rfl
theorem nf210 : ∃ i, Try.prog.info? 210 = some i := Option.isSome_iff_exists.1 (by kernel_rfl)
theorem sz211 : (Try.prog.info? 211).map (·.size) = some 2 := by kernel_rfl
theorem ce211 : Nat.blt 0 (Try.prog.cellsOf 211) = true := by kernel_rfl
theorem nf211 : ∃ i, Try.prog.info? 211 = some i := Option.isSome_iff_exists.1 (by kernel_rfl)
theorem zr211 : (Try.prog.info? 211).map (·.zero) = some (some (.agg [.bool false, .bool false].toArray)) := by kernel_rfl
theorem sz212 : (Try.prog.info? 212).map (·.size) = some 1 := by kernel_rfl
theorem ce212 : Nat.blt 0 (Try.prog.cellsOf 212) = true := by kernel_rfl
theorem nf212 : ∃ i, Try.prog.info? 212 = some i := Option.isSome_iff_exists.1 (by kernel_rfl)
theorem sz213 : (Try.prog.info? 213).map (·.size) = some 1 := by kernel_rfl
theorem ce213 : Nat.blt 0 (Try.prog.cellsOf 213) = true := by kernel_rfl
theorem nf213 : ∃ i, Try.prog.info? 213 = some i := Option.isSome_iff_exists.1 (by kernel_rfl)
theorem sz214 : (Try.prog.info? 214).map (·.size) = some 1 := by kernel_rfl
theorem ce214 : Nat.blt 0 (Try.prog.cellsOf 214) = true := by kernel_rfl
theorem nf214 : ∃ i, Try.prog.info? 214 = some i := Option.isSome_iff_exists.1 (by kernel_rfl)
theorem sz215 : (Try.prog.info? 215).map (·.size) = some 1 := by kernel_rfl
theorem ce215 : Nat.blt 0 (Try.prog.cellsOf 215) = true := by kernel_rfl
theorem nf215 : ∃ i, Try.prog.info? 215 = some i := Option.isSome_iff_exists.1 (by kernel_rfl)
theorem sz216 : (Try.prog.info? 216).map (·.size) = some 1 := by kernel_rfl
theorem ce216 : Nat.blt 0 (Try.prog.cellsOf 216) = true := by kernel_rfl
theorem nf216 : ∃ i, Try.prog.info? 216 = some i := Option.isSome_iff_exists.1 (by kernel_rfl)
theorem zr216 : (Try.prog.info? 216).map (·.zero) = some (some (.int .i64 0)) := by kernel_rfl
theorem sz217 : (Try.prog.info? 217).map (·.size) = some 1 := by kernel_rfl
theorem ce217 : Nat.blt 0 (Try.prog.cellsOf 217) = true := by kernel_rfl
theorem nf217 : ∃ i, Try.prog.info? 217 = some i := Option.isSome_iff_exists.1 (by kernel_rfl)
theorem sz218 : (Try.prog.info? 218).map (·.size) = some 1 := by kernel_rfl
theorem ce218 : Nat.blt 0 (Try.prog.cellsOf 218) = true := by kernel_rfl
theorem nf218 : ∃ i, Try.prog.info? 218 = some i := Option.isSome_iff_exists.1 (by kernel_rfl)
theorem sz219 : (Try.prog.info? 219).map (·.size) = some 1 := by kernel_rfl
theorem ce219 : Nat.blt 0 (Try.prog.cellsOf 219) = true := by kernel_rfl
theorem nf219 : ∃ i, Try.prog.info? 219 = some i := Option.isSome_iff_exists.1 (by kernel_rfl)
theorem sz220 : (Try.prog.info? 220).map (·.size) = some 1 := by kernel_rfl
theorem ce220 : Nat.blt 0 (Try.prog.cellsOf 220) = true := by kernel_rfl
theorem nf220 : ∃ i, Try.prog.info? 220 = some i := Option.isSome_iff_exists.1 (by kernel_rfl)
theorem sz221 : (Try.prog.info? 221).map (·.size) = some 1 := by kernel_rfl
theorem ce221 : Nat.blt 0 (Try.prog.cellsOf 221) = true := by kernel_rfl
theorem nf221 : ∃ i, Try.prog.info? 221 = some i := Option.isSome_iff_exists.1 (by kernel_rfl)
theorem sz222 : (Try.prog.info? 222).map (·.size) = some 1 := by kernel_rfl
theorem ce222 : Nat.blt 0 (Try.prog.cellsOf 222) = true := by kernel_rfl
theorem nf222 : ∃ i, Try.prog.info? 222 = some i := Option.isSome_iff_exists.1 (by kernel_rfl)
theorem sz223 : (Try.prog.info? 223).map (·.size) = some 1 := by kernel_rfl
theorem ce223 : Nat.blt 0 (Try.prog.cellsOf 223) = true := by kernel_rfl
theorem nf223 : ∃ i, Try.prog.info? 223 = some i := Option.isSome_iff_exists.1 (by kernel_rfl)
theorem sz224 : (Try.prog.info? 224).map (·.size) = some 1 := by kernel_rfl
theorem ce224 : Nat.blt 0 (Try.prog.cellsOf 224) = true := by kernel_rfl
theorem nf224 : ∃ i, Try.prog.info? 224 = some i := Option.isSome_iff_exists.1 (by kernel_rfl)
theorem zr224 : (Try.prog.info? 224).map (·.zero) = some (some (.int .u64 0)) := by kernel_rfl
theorem sz225 : (Try.prog.info? 225).map (·.size) = some 1 := by kernel_rfl
theorem ce225 : Nat.blt 0 (Try.prog.cellsOf 225) = true := by kernel_rfl
theorem nf225 : ∃ i, Try.prog.info? 225 = some i := Option.isSome_iff_exists.1 (by kernel_rfl)
theorem sz226 : (Try.prog.info? 226).map (·.size) = some 1 := by kernel_rfl
theorem ce226 : Nat.blt 0 (Try.prog.cellsOf 226) = true := by kernel_rfl
theorem nf226 : ∃ i, Try.prog.info? 226 = some i := Option.isSome_iff_exists.1 (by kernel_rfl)
theorem sz227 : (Try.prog.info? 227).map (·.size) = some 1 := by kernel_rfl
theorem ce227 : Nat.blt 0 (Try.prog.cellsOf 227) = true := by kernel_rfl
theorem nf227 : ∃ i, Try.prog.info? 227 = some i := Option.isSome_iff_exists.1 (by kernel_rfl)
theorem sz228 : (Try.prog.info? 228).map (·.size) = some 1 := by kernel_rfl
theorem ce228 : Nat.blt 0 (Try.prog.cellsOf 228) = true := by kernel_rfl
theorem nf228 : ∃ i, Try.prog.info? 228 = some i := Option.isSome_iff_exists.1 (by kernel_rfl)
theorem zr228 : (Try.prog.info? 228).map (·.zero) = some (some (.pointer none)) := by kernel_rfl
theorem sz229 : (Try.prog.info? 229).map (·.size) = some 1 := by kernel_rfl
theorem ce229 : Nat.blt 0 (Try.prog.cellsOf 229) = true := by kernel_rfl
theorem nf229 : ∃ i, Try.prog.info? 229 = some i := Option.isSome_iff_exists.1 (by kernel_rfl)
theorem sz230 : (Try.prog.info? 230).map (·.size) = some 1 := by kernel_rfl
theorem ce230 : Nat.blt 0 (Try.prog.cellsOf 230) = true := by kernel_rfl
theorem nf230 : ∃ i, Try.prog.info? 230 = some i := Option.isSome_iff_exists.1 (by kernel_rfl)
theorem zr230 : (Try.prog.info? 230).map (·.zero) = some (some (.pointer none)) := by kernel_rfl
theorem sz231 : (Try.prog.info? 231).map (·.size) = some 1 := by kernel_rfl
theorem ce231 : Nat.blt 0 (Try.prog.cellsOf 231) = true := by kernel_rfl
theorem nf231 : ∃ i, Try.prog.info? 231 = some i := Option.isSome_iff_exists.1 (by kernel_rfl)
theorem sz232 : (Try.prog.info? 232).map (·.size) = some 1 := by kernel_rfl
theorem ce232 : Nat.blt 0 (Try.prog.cellsOf 232) = true := by kernel_rfl
theorem nf232 : ∃ i, Try.prog.info? 232 = some i := Option.isSome_iff_exists.1 (by kernel_rfl)
theorem sz233 : (Try.prog.info? 233).map (·.size) = some 1 := by kernel_rfl
theorem ce233 : Nat.blt 0 (Try.prog.cellsOf 233) = true := by kernel_rfl
theorem nf233 : ∃ i, Try.prog.info? 233 = some i := Option.isSome_iff_exists.1 (by kernel_rfl)
theorem sz234 : (Try.prog.info? 234).map (·.size) = some 4 := by kernel_rfl
theorem ce234 : Nat.blt 0 (Try.prog.cellsOf 234) = true := by kernel_rfl
theorem nf234 : ∃ i, Try.prog.info? 234 = some i := Option.isSome_iff_exists.1 (by kernel_rfl)
theorem zr234 : (Try.prog.info? 234).map (·.zero) = some (some (.agg [.pointer none, .pointer none, .pointer none, .string ⟨#[]⟩].toArray)) := by kernel_rfl
theorem st234 : StOf Try.prog 234 [(0, 1), (1, 1), (2, 1), (3, 1)] [.pointer none, .pointer none, .pointer none, .string ⟨#[]⟩] := ⟨_, Try.underlying234, by kernel_rfl, ⟨⟨rfl, by kernel_rfl⟩, ⟨rfl, by kernel_rfl⟩, ⟨rfl, by kernel_rfl⟩, ⟨rfl, by kernel_rfl⟩, trivial⟩⟩
theorem sz235 : (Try.prog.info? 235).map (·.size) = some 4 := by kernel_rfl
theorem ce235 : Nat.blt 0 (Try.prog.cellsOf 235) = true := by kernel_rfl
theorem nf235 : ∃ i, Try.prog.info? 235 = some i := Option.isSome_iff_exists.1 (by kernel_rfl)
theorem zr235 : (Try.prog.info? 235).map (·.zero) = some (some (.agg [.pointer none, .pointer none, .pointer none, .string ⟨#[]⟩].toArray)) := by kernel_rfl
theorem st235 : StOf Try.prog 235 [(0, 1), (1, 1), (2, 1), (3, 1)] [.pointer none, .pointer none, .pointer none, .string ⟨#[]⟩] := ⟨_, Try.underlying235, by kernel_rfl, ⟨⟨rfl, by kernel_rfl⟩, ⟨rfl, by kernel_rfl⟩, ⟨rfl, by kernel_rfl⟩, ⟨rfl, by kernel_rfl⟩, trivial⟩⟩
theorem sz236 : (Try.prog.info? 236).map (·.size) = some 0 := by kernel_rfl
theorem nf236 : ∃ i, Try.prog.info? 236 = some i := Option.isSome_iff_exists.1 (by kernel_rfl)
theorem zr236 : (Try.prog.info? 236).map (·.zero) = some (some (.agg [].toArray)) := by kernel_rfl
theorem sz237 : (Try.prog.info? 237).map (·.size) = some 0 := by kernel_rfl
theorem nf237 : ∃ i, Try.prog.info? 237 = some i := Option.isSome_iff_exists.1 (by kernel_rfl)
theorem zr237 : (Try.prog.info? 237).map (·.zero) = some (some (.agg [].toArray)) := by kernel_rfl
theorem st237 : StOf Try.prog 237 [(0, 0)] [] := ⟨_, Try.underlying237, by kernel_rfl, ⟨⟨rfl, by kernel_rfl⟩, trivial⟩⟩
theorem sz238 : (Try.prog.info? 238).map (·.size) = some 0 := by kernel_rfl
theorem nf238 : ∃ i, Try.prog.info? 238 = some i := Option.isSome_iff_exists.1 (by kernel_rfl)
theorem zr238 : (Try.prog.info? 238).map (·.zero) = some (some (.agg [].toArray)) := by kernel_rfl
theorem st238 : StOf Try.prog 238 [(0, 0)] [] := ⟨_, Try.underlying238, by kernel_rfl, ⟨⟨rfl, by kernel_rfl⟩, trivial⟩⟩
theorem sz239 : (Try.prog.info? 239).map (·.size) = some 1 := by kernel_rfl
theorem ce239 : Nat.blt 0 (Try.prog.cellsOf 239) = true := by kernel_rfl
theorem nf239 : ∃ i, Try.prog.info? 239 = some i := Option.isSome_iff_exists.1 (by kernel_rfl)
theorem zr239 : (Try.prog.info? 239).map (·.zero) = some (some (.int .u8 0)) := by kernel_rfl
theorem sz240 : (Try.prog.info? 240).map (·.size) = some 1 := by kernel_rfl
theorem ce240 : Nat.blt 0 (Try.prog.cellsOf 240) = true := by kernel_rfl
theorem nf240 : ∃ i, Try.prog.info? 240 = some i := Option.isSome_iff_exists.1 (by kernel_rfl)
theorem zr240 : (Try.prog.info? 240).map (·.zero) = some (some (.int .u8 0)) := by kernel_rfl
theorem sz241 : (Try.prog.info? 241).map (·.size) = some 1 := by kernel_rfl
theorem ce241 : Nat.blt 0 (Try.prog.cellsOf 241) = true := by kernel_rfl
theorem nf241 : ∃ i, Try.prog.info? 241 = some i := Option.isSome_iff_exists.1 (by kernel_rfl)
theorem sz242 : (Try.prog.info? 242).map (·.size) = some 1 := by kernel_rfl
theorem ce242 : Nat.blt 0 (Try.prog.cellsOf 242) = true := by kernel_rfl
theorem nf242 : ∃ i, Try.prog.info? 242 = some i := Option.isSome_iff_exists.1 (by kernel_rfl)
theorem zr242 : (Try.prog.info? 242).map (·.zero) = some (some (.pointer none)) := by kernel_rfl
theorem sz243 : (Try.prog.info? 243).map (·.size) = some 1 := by kernel_rfl
theorem ce243 : Nat.blt 0 (Try.prog.cellsOf 243) = true := by kernel_rfl
theorem nf243 : ∃ i, Try.prog.info? 243 = some i := Option.isSome_iff_exists.1 (by kernel_rfl)
theorem zr243 : (Try.prog.info? 243).map (·.zero) = some (some (.int .i32 0)) := by kernel_rfl
theorem sz244 : (Try.prog.info? 244).map (·.size) = some 1 := by kernel_rfl
theorem ce244 : Nat.blt 0 (Try.prog.cellsOf 244) = true := by kernel_rfl
theorem nf244 : ∃ i, Try.prog.info? 244 = some i := Option.isSome_iff_exists.1 (by kernel_rfl)
theorem zr244 : (Try.prog.info? 244).map (·.zero) = some (some (.int .i32 0)) := by kernel_rfl
theorem sz245 : (Try.prog.info? 245).map (·.size) = some 11 := by kernel_rfl
theorem ce245 : Nat.blt 0 (Try.prog.cellsOf 245) = true := by kernel_rfl
theorem nf245 : ∃ i, Try.prog.info? 245 = some i := Option.isSome_iff_exists.1 (by kernel_rfl)
theorem zr245 : (Try.prog.info? 245).map (·.zero) = some (some (.agg [.int .u64 0, .int .u64 0, .int .u32 0, .int .u8 0, .int .u8 0, .int .u8 0, .int .u8 0, .nilFunc, .pointer none, .int .i32 0, .int .i32 0].toArray)) := by kernel_rfl
theorem st245 : StOf Try.prog 245 [(0, 1), (1, 1), (2, 1), (3, 1), (4, 1), (5, 1), (6, 1), (7, 1), (8, 1), (9, 1), (10, 1)] [.int .u64 0, .int .u64 0, .int .u32 0, .int .u8 0, .int .u8 0, .int .u8 0, .int .u8 0, .nilFunc, .pointer none, .int .i32 0, .int .i32 0] := ⟨_, Try.underlying245, by kernel_rfl, ⟨⟨rfl, by kernel_rfl⟩, ⟨rfl, by kernel_rfl⟩, ⟨rfl, by kernel_rfl⟩, ⟨rfl, by kernel_rfl⟩, ⟨rfl, by kernel_rfl⟩, ⟨rfl, by kernel_rfl⟩, ⟨rfl, by kernel_rfl⟩, ⟨rfl, by kernel_rfl⟩, ⟨rfl, by kernel_rfl⟩, ⟨rfl, by kernel_rfl⟩, ⟨rfl, by kernel_rfl⟩, trivial⟩⟩
theorem sz246 : (Try.prog.info? 246).map (·.size) = some 11 := by kernel_rfl
theorem ce246 : Nat.blt 0 (Try.prog.cellsOf 246) = true := by kernel_rfl
theorem nf246 : ∃ i, Try.prog.info? 246 = some i := Option.isSome_iff_exists.1 (by kernel_rfl)
theorem zr246 : (Try.prog.info? 246).map (·.zero) = some (some (.agg [.int .u64 0, .int .u64 0, .int .u32 0, .int .u8 0, .int .u8 0, .int .u8 0, .int .u8 0, .nilFunc, .pointer none, .int .i32 0, .int .i32 0].toArray)) := by kernel_rfl
theorem st246 : StOf Try.prog 246 [(0, 1), (1, 1), (2, 1), (3, 1), (4, 1), (5, 1), (6, 1), (7, 1), (8, 1), (9, 1), (10, 1)] [.int .u64 0, .int .u64 0, .int .u32 0, .int .u8 0, .int .u8 0, .int .u8 0, .int .u8 0, .nilFunc, .pointer none, .int .i32 0, .int .i32 0] := ⟨_, Try.underlying246, by kernel_rfl, ⟨⟨rfl, by kernel_rfl⟩, ⟨rfl, by kernel_rfl⟩, ⟨rfl, by kernel_rfl⟩, ⟨rfl, by kernel_rfl⟩, ⟨rfl, by kernel_rfl⟩, ⟨rfl, by kernel_rfl⟩, ⟨rfl, by kernel_rfl⟩, ⟨rfl, by kernel_rfl⟩, ⟨rfl, by kernel_rfl⟩, ⟨rfl, by kernel_rfl⟩, ⟨rfl, by kernel_rfl⟩, trivial⟩⟩
theorem sz247 : (Try.prog.info? 247).map (·.size) = some 1 := by kernel_rfl
theorem ce247 : Nat.blt 0 (Try.prog.cellsOf 247) = true := by kernel_rfl
theorem nf247 : ∃ i, Try.prog.info? 247 = some i := Option.isSome_iff_exists.1 (by kernel_rfl)
theorem zr247 : (Try.prog.info? 247).map (·.zero) = some (some (.pointer none)) := by kernel_rfl
theorem cf2 : ∀ args w, (callFunc 2 args).run Try.prog w = .ok (.enter 2 args) w := enter_ok (c := Try.f2.body.getD .skip) Try.func2 (by decide) rfl
theorem cf3 : ∀ args w, (callFunc 3 args).run Try.prog w = .ok (.enter 3 args) w := enter_ok (c := Try.f3.body.getD .skip) Try.func3 (by decide) rfl
theorem cf4 : ∀ args w, (callFunc 4 args).run Try.prog w = .ok (.enter 4 args) w := enter_ok (c := Try.f4.body.getD .skip) Try.func4 (by decide) rfl
theorem cf5 : ∀ args w, (callFunc 5 args).run Try.prog w = .ok (.enter 5 args) w := enter_ok (c := Try.f5.body.getD .skip) Try.func5 (by decide) rfl
theorem cf6 : ∀ args w, (callFunc 6 args).run Try.prog w = .ok (.enter 6 args) w := enter_ok (c := Try.f6.body.getD .skip) Try.func6 (by decide) rfl
theorem cf7 : ∀ args w, (callFunc 7 args).run Try.prog w = .ok (.enter 7 args) w := enter_ok (c := Try.f7.body.getD .skip) Try.func7 (by decide) rfl
theorem cf8 : ∀ args w, (callFunc 8 args).run Try.prog w = .ok (.enter 8 args) w := enter_ok (c := Try.f8.body.getD .skip) Try.func8 (by decide) rfl
theorem cf9 : ∀ args w, (callFunc 9 args).run Try.prog w = .ok (.enter 9 args) w := enter_ok (c := Try.f9.body.getD .skip) Try.func9 (by decide) rfl
theorem cf10 : ∀ args w, (callFunc 10 args).run Try.prog w = .ok (.enter 10 args) w := enter_ok (c := Try.f10.body.getD .skip) Try.func10 (by decide) rfl
theorem cf11 : ∀ args w, (callFunc 11 args).run Try.prog w = .ok (.enter 11 args) w := enter_ok (c := Try.f11.body.getD .skip) Try.func11 (by decide) rfl
theorem cf12 : ∀ args w, (callFunc 12 args).run Try.prog w = .ok (.enter 12 args) w := enter_ok (c := Try.f12.body.getD .skip) Try.func12 (by decide) rfl
theorem cf13 : ∀ args w, (callFunc 13 args).run Try.prog w = .ok (.enter 13 args) w := enter_ok (c := Try.f13.body.getD .skip) Try.func13 (by decide) rfl
theorem cf14 : ∀ args w, (callFunc 14 args).run Try.prog w = .ok (.enter 14 args) w := enter_ok (c := Try.f14.body.getD .skip) Try.func14 (by decide) rfl
theorem cf15 : ∀ args w, (callFunc 15 args).run Try.prog w = .ok (.enter 15 args) w := enter_ok (c := Try.f15.body.getD .skip) Try.func15 (by decide) rfl
theorem cf16 : ∀ args w, (callFunc 16 args).run Try.prog w = .ok (.enter 16 args) w := enter_ok (c := Try.f16.body.getD .skip) Try.func16 (by decide) rfl
theorem cf17 : ∀ args w, (callFunc 17 args).run Try.prog w = .ok (.enter 17 args) w := enter_ok (c := Try.f17.body.getD .skip) Try.func17 (by decide) rfl
theorem cf18 : ∀ args w, (callFunc 18 args).run Try.prog w = .ok (.enter 18 args) w := enter_ok (c := Try.f18.body.getD .skip) Try.func18 (by decide) rfl
theorem cf19 : ∀ args w, (callFunc 19 args).run Try.prog w = .ok (.enter 19 args) w := enter_ok (c := Try.f19.body.getD .skip) Try.func19 (by decide) rfl
theorem cf20 : ∀ args w, (callFunc 20 args).run Try.prog w = .ok (.enter 20 args) w := enter_ok (c := Try.f20.body.getD .skip) Try.func20 (by decide) rfl
theorem cf21 : ∀ args w, (callFunc 21 args).run Try.prog w = .ok (.enter 21 args) w := enter_ok (c := Try.f21.body.getD .skip) Try.func21 (by decide) rfl
theorem cf22 : ∀ args w, (callFunc 22 args).run Try.prog w = .ok (.enter 22 args) w := enter_ok (c := Try.f22.body.getD .skip) Try.func22 (by decide) rfl
theorem cf23 : ∀ args w, (callFunc 23 args).run Try.prog w = .ok (.enter 23 args) w := enter_ok (c := Try.f23.body.getD .skip) Try.func23 (by decide) rfl
theorem cf24 : ∀ args w, (callFunc 24 args).run Try.prog w = .ok (.enter 24 args) w := enter_ok (c := Try.f24.body.getD .skip) Try.func24 (by decide) rfl
theorem cf25 : ∀ args w, (callFunc 25 args).run Try.prog w = .ok (.enter 25 args) w := enter_ok (c := Try.f25.body.getD .skip) Try.func25 (by decide) rfl
theorem cf26 : ∀ args w, (callFunc 26 args).run Try.prog w = .ok (.enter 26 args) w := enter_ok (c := Try.f26.body.getD .skip) Try.func26 (by decide) rfl
theorem cf27 : ∀ args w, (callFunc 27 args).run Try.prog w = .ok (.enter 27 args) w := enter_ok (c := Try.f27.body.getD .skip) Try.func27 (by decide) rfl
theorem cf28 : ∀ args w, (callFunc 28 args).run Try.prog w = .ok (.enter 28 args) w := enter_ok (c := Try.f28.body.getD .skip) Try.func28 (by decide) rfl
theorem cf29 : ∀ args w, (callFunc 29 args).run Try.prog w = .ok (.enter 29 args) w := enter_ok (c := Try.f29.body.getD .skip) Try.func29 (by decide) rfl
theorem cf30 : ∀ args w, (callFunc 30 args).run Try.prog w = .ok (.enter 30 args) w := enter_ok (c := Try.f30.body.getD .skip) Try.func30 (by decide) rfl
theorem cf31 : ∀ args w, (callFunc 31 args).run Try.prog w = .ok (.enter 31 args) w := enter_ok (c := Try.f31.body.getD .skip) Try.func31 (by decide) rfl
theorem cf32 : ∀ args w, (callFunc 32 args).run Try.prog w = .ok (.enter 32 args) w := enter_ok (c := Try.f32.body.getD .skip) Try.func32 (by decide) rfl
theorem cf33 : ∀ args w, (callFunc 33 args).run Try.prog w = .ok (.enter 33 args) w := enter_ok (c := Try.f33.body.getD .skip) Try.func33 (by decide) rfl
theorem cf34 : ∀ args w, (callFunc 34 args).run Try.prog w = .ok (.enter 34 args) w := enter_ok (c := Try.f34.body.getD .skip) Try.func34 (by decide) rfl
theorem cf35 : ∀ args w, (callFunc 35 args).run Try.prog w = .ok (.enter 35 args) w := enter_ok (c := Try.f35.body.getD .skip) Try.func35 (by decide) rfl
theorem cf36 : ∀ args w, (callFunc 36 args).run Try.prog w = .ok (.enter 36 args) w := enter_ok (c := Try.f36.body.getD .skip) Try.func36 (by decide) rfl
theorem cf37 : ∀ args w, (callFunc 37 args).run Try.prog w = .ok (.enter 37 args) w := enter_ok (c := Try.f37.body.getD .skip) Try.func37 (by decide) rfl
theorem cf38 : ∀ args w, (callFunc 38 args).run Try.prog w = .ok (.enter 38 args) w := enter_ok (c := Try.f38.body.getD .skip) Try.func38 (by decide) rfl
theorem cf39 : ∀ args w, (callFunc 39 args).run Try.prog w = .ok (.enter 39 args) w := enter_ok (c := Try.f39.body.getD .skip) Try.func39 (by decide) rfl
theorem cf40 : ∀ args w, (callFunc 40 args).run Try.prog w = .ok (.enter 40 args) w := enter_ok (c := Try.f40.body.getD .skip) Try.func40 (by decide) rfl
theorem cf41 : ∀ args w, (callFunc 41 args).run Try.prog w = .ok (.enter 41 args) w := enter_ok (c := Try.f41.body.getD .skip) Try.func41 (by decide) rfl
theorem cf42 : ∀ args w, (callFunc 42 args).run Try.prog w = .ok (.enter 42 args) w := enter_ok (c := Try.f42.body.getD .skip) Try.func42 (by decide) rfl
theorem cf43 : ∀ args w, (callFunc 43 args).run Try.prog w = .ok (.enter 43 args) w := enter_ok (c := Try.f43.body.getD .skip) Try.func43 (by decide) rfl
theorem cf44 : ∀ args w, (callFunc 44 args).run Try.prog w = .ok (.enter 44 args) w := enter_ok (c := Try.f44.body.getD .skip) Try.func44 (by decide) rfl
theorem cf45 : ∀ args w, (callFunc 45 args).run Try.prog w = .ok (.enter 45 args) w := enter_ok (c := Try.f45.body.getD .skip) Try.func45 (by decide) rfl
theorem cf46 : ∀ args w, (callFunc 46 args).run Try.prog w = .ok (.enter 46 args) w := enter_ok (c := Try.f46.body.getD .skip) Try.func46 (by decide) rfl
theorem cf47 : ∀ args w, (callFunc 47 args).run Try.prog w = .ok (.enter 47 args) w := enter_ok (c := Try.f47.body.getD .skip) Try.func47 (by decide) rfl
theorem cf48 : ∀ args w, (callFunc 48 args).run Try.prog w = .ok (.enter 48 args) w := enter_ok (c := Try.f48.body.getD .skip) Try.func48 (by decide) rfl
theorem cf49 : ∀ args w, (callFunc 49 args).run Try.prog w = .ok (.enter 49 args) w := enter_ok (c := Try.f49.body.getD .skip) Try.func49 (by decide) rfl
theorem cf50 : ∀ args w, (callFunc 50 args).run Try.prog w = .ok (.enter 50 args) w := enter_ok (c := Try.f50.body.getD .skip) Try.func50 (by decide) rfl
theorem cf51 : ∀ args w, (callFunc 51 args).run Try.prog w = .ok (.enter 51 args) w := enter_ok (c := Try.f51.body.getD .skip) Try.func51 (by decide) rfl
theorem cf52 : ∀ args w, (callFunc 52 args).run Try.prog w = .ok (.enter 52 args) w := enter_ok (c := Try.f52.body.getD .skip) Try.func52 (by decide) rfl
theorem cf53 : ∀ args w, (callFunc 53 args).run Try.prog w = .ok (.enter 53 args) w := enter_ok (c := Try.f53.body.getD .skip) Try.func53 (by decide) rfl
theorem cf54 : ∀ args w, (callFunc 54 args).run Try.prog w = .ok (.enter 54 args) w := enter_ok (c := Try.f54.body.getD .skip) Try.func54 (by decide) rfl
theorem cf55 : ∀ args w, (callFunc 55 args).run Try.prog w = .ok (.enter 55 args) w := enter_ok (c := Try.f55.body.getD .skip) Try.func55 (by decide) rfl
theorem cf56 : ∀ args w, (callFunc 56 args).run Try.prog w = .ok (.enter 56 args) w := enter_ok (c := Try.f56.body.getD .skip) Try.func56 (by decide) rfl
theorem cf57 : ∀ args w, (callFunc 57 args).run Try.prog w = .ok (.enter 57 args) w := enter_ok (c := Try.f57.body.getD .skip) Try.func57 (by decide) rfl
theorem cf58 : ∀ args w, (callFunc 58 args).run Try.prog w = .ok (.enter 58 args) w := enter_ok (c := Try.f58.body.getD .skip) Try.func58 (by decide) rfl
theorem cf59 : ∀ args w, (callFunc 59 args).run Try.prog w = .ok (.enter 59 args) w := enter_ok (c := Try.f59.body.getD .skip) Try.func59 (by decide) rfl
theorem cf60 : ∀ args w, (callFunc 60 args).run Try.prog w = .ok (.enter 60 args) w := enter_ok (c := Try.f60.body.getD .skip) Try.func60 (by decide) rfl
theorem cf61 : ∀ args w, (callFunc 61 args).run Try.prog w = .ok (.enter 61 args) w := enter_ok (c := Try.f61.body.getD .skip) Try.func61 (by decide) rfl
theorem cf62 : ∀ args w, (callFunc 62 args).run Try.prog w = .ok (.enter 62 args) w := enter_ok (c := Try.f62.body.getD .skip) Try.func62 (by decide) rfl
theorem cf63 : ∀ args w, (callFunc 63 args).run Try.prog w = .ok (.enter 63 args) w := enter_ok (c := Try.f63.body.getD .skip) Try.func63 (by decide) rfl
theorem cf64 : ∀ args w, (callFunc 64 args).run Try.prog w = .ok (.enter 64 args) w := enter_ok (c := Try.f64.body.getD .skip) Try.func64 (by decide) rfl
theorem cf65 : ∀ args w, (callFunc 65 args).run Try.prog w = .ok (.enter 65 args) w := enter_ok (c := Try.f65.body.getD .skip) Try.func65 (by decide) rfl
theorem cf66 : ∀ args w, (callFunc 66 args).run Try.prog w = .ok (.enter 66 args) w := enter_ok (c := Try.f66.body.getD .skip) Try.func66 (by decide) rfl
theorem cf67 : ∀ args w, (callFunc 67 args).run Try.prog w = .ok (.enter 67 args) w := enter_ok (c := Try.f67.body.getD .skip) Try.func67 (by decide) rfl
theorem cf68 : ∀ args w, (callFunc 68 args).run Try.prog w = .ok (.enter 68 args) w := enter_ok (c := Try.f68.body.getD .skip) Try.func68 (by decide) rfl
theorem cf69 : ∀ args w, (callFunc 69 args).run Try.prog w = .ok (.enter 69 args) w := enter_ok (c := Try.f69.body.getD .skip) Try.func69 (by decide) rfl
theorem cf70 : ∀ args w, (callFunc 70 args).run Try.prog w = .ok (.enter 70 args) w := enter_ok (c := Try.f70.body.getD .skip) Try.func70 (by decide) rfl
theorem cf71 : ∀ args w, (callFunc 71 args).run Try.prog w = .ok (.enter 71 args) w := enter_ok (c := Try.f71.body.getD .skip) Try.func71 (by decide) rfl
theorem cf72 : ∀ args w, (callFunc 72 args).run Try.prog w = .ok (.enter 72 args) w := enter_ok (c := Try.f72.body.getD .skip) Try.func72 (by decide) rfl
theorem cf73 : ∀ args w, (callFunc 73 args).run Try.prog w = .ok (.enter 73 args) w := enter_ok (c := Try.f73.body.getD .skip) Try.func73 (by decide) rfl
theorem cf74 : ∀ args w, (callFunc 74 args).run Try.prog w = .ok (.enter 74 args) w := enter_ok (c := Try.f74.body.getD .skip) Try.func74 (by decide) rfl
theorem cf75 : ∀ args w, (callFunc 75 args).run Try.prog w = .ok (.enter 75 args) w := enter_ok (c := Try.f75.body.getD .skip) Try.func75 (by decide) rfl
theorem cf76 : ∀ args w, (callFunc 76 args).run Try.prog w = .ok (.enter 76 args) w := enter_ok (c := Try.f76.body.getD .skip) Try.func76 (by decide) rfl
theorem cf77 : ∀ args w, (callFunc 77 args).run Try.prog w = .ok (.enter 77 args) w := enter_ok (c := Try.f77.body.getD .skip) Try.func77 (by decide) rfl
theorem cf78 : ∀ args w, (callFunc 78 args).run Try.prog w = .ok (.enter 78 args) w := enter_ok (c := Try.f78.body.getD .skip) Try.func78 (by decide) rfl
theorem cf79 : ∀ args w, (callFunc 79 args).run Try.prog w = .ok (.enter 79 args) w := enter_ok (c := Try.f79.body.getD .skip) Try.func79 (by decide) rfl
theorem cf80 : ∀ args w, (callFunc 80 args).run Try.prog w = .ok (.enter 80 args) w := enter_ok (c := Try.f80.body.getD .skip) Try.func80 (by decide) rfl
theorem cf81 : ∀ args w, (callFunc 81 args).run Try.prog w = .ok (.enter 81 args) w := enter_ok (c := Try.f81.body.getD .skip) Try.func81 (by decide) rfl
theorem cf82 : ∀ args w, (callFunc 82 args).run Try.prog w = .ok (.enter 82 args) w := enter_ok (c := Try.f82.body.getD .skip) Try.func82 (by decide) rfl
theorem cf83 : ∀ args w, (callFunc 83 args).run Try.prog w = .ok (.enter 83 args) w := enter_ok (c := Try.f83.body.getD .skip) Try.func83 (by decide) rfl
theorem cf84 : ∀ args w, (callFunc 84 args).run Try.prog w = .ok (.enter 84 args) w := enter_ok (c := Try.f84.body.getD .skip) Try.func84 (by decide) rfl
theorem cf85 : ∀ args w, (callFunc 85 args).run Try.prog w = .ok (.enter 85 args) w := enter_ok (c := Try.f85.body.getD .skip) Try.func85 (by decide) rfl
theorem cf86 : ∀ args w, (callFunc 86 args).run Try.prog w = .ok (.enter 86 args) w := enter_ok (c := Try.f86.body.getD .skip) Try.func86 (by decide) rfl
theorem cf87 : ∀ args w, (callFunc 87 args).run Try.prog w = .ok (.enter 87 args) w := enter_ok (c := Try.f87.body.getD .skip) Try.func87 (by decide) rfl
theorem cf88 : ∀ args w, (callFunc 88 args).run Try.prog w = .ok (.enter 88 args) w := enter_ok (c := Try.f88.body.getD .skip) Try.func88 (by decide) rfl
theorem cf89 : ∀ args w, (callFunc 89 args).run Try.prog w = .ok (.enter 89 args) w := enter_ok (c := Try.f89.body.getD .skip) Try.func89 (by decide) rfl
theorem cf90 : ∀ args w, (callFunc 90 args).run Try.prog w = .ok (.enter 90 args) w := enter_ok (c := Try.f90.body.getD .skip) Try.func90 (by decide) rfl
theorem cf91 : ∀ args w, (callFunc 91 args).run Try.prog w = .ok (.enter 91 args) w := enter_ok (c := Try.f91.body.getD .skip) Try.func91 (by decide) rfl
theorem cf92 : ∀ args w, (callFunc 92 args).run Try.prog w = .ok (.enter 92 args) w := enter_ok (c := Try.f92.body.getD .skip) Try.func92 (by decide) rfl
theorem cf93 : ∀ args w, (callFunc 93 args).run Try.prog w = .ok (.enter 93 args) w := enter_ok (c := Try.f93.body.getD .skip) Try.func93 (by decide) rfl
theorem cf94 : ∀ args w, (callFunc 94 args).run Try.prog w = .ok (.enter 94 args) w := enter_ok (c := Try.f94.body.getD .skip) Try.func94 (by decide) rfl
theorem cf95 : ∀ args w, (callFunc 95 args).run Try.prog w = .ok (.enter 95 args) w := enter_ok (c := Try.f95.body.getD .skip) Try.func95 (by decide) rfl
theorem cf96 : ∀ args w, (callFunc 96 args).run Try.prog w = .ok (.enter 96 args) w := enter_ok (c := Try.f96.body.getD .skip) Try.func96 (by decide) rfl
theorem cf97 : ∀ args w, (callFunc 97 args).run Try.prog w = .ok (.enter 97 args) w := enter_ok (c := Try.f97.body.getD .skip) Try.func97 (by decide) rfl
theorem cf98 : ∀ args w, (callFunc 98 args).run Try.prog w = .ok (.enter 98 args) w := enter_ok (c := Try.f98.body.getD .skip) Try.func98 (by decide) rfl
theorem cf99 : ∀ args w, (callFunc 99 args).run Try.prog w = .ok (.enter 99 args) w := enter_ok (c := Try.f99.body.getD .skip) Try.func99 (by decide) rfl
theorem cf100 : ∀ args w, (callFunc 100 args).run Try.prog w = .ok (.enter 100 args) w := enter_ok (c := Try.f100.body.getD .skip) Try.func100 (by decide) rfl
theorem cf101 : ∀ args w, (callFunc 101 args).run Try.prog w = .ok (.enter 101 args) w := enter_ok (c := Try.f101.body.getD .skip) Try.func101 (by decide) rfl
theorem cf102 : ∀ args w, (callFunc 102 args).run Try.prog w = .ok (.enter 102 args) w := enter_ok (c := Try.f102.body.getD .skip) Try.func102 (by decide) rfl
theorem cf103 : ∀ args w, (callFunc 103 args).run Try.prog w = .ok (.enter 103 args) w := enter_ok (c := Try.f103.body.getD .skip) Try.func103 (by decide) rfl
theorem cf104 : ∀ args w, (callFunc 104 args).run Try.prog w = .ok (.enter 104 args) w := enter_ok (c := Try.f104.body.getD .skip) Try.func104 (by decide) rfl
theorem cf105 : ∀ args w, (callFunc 105 args).run Try.prog w = .ok (.enter 105 args) w := enter_ok (c := Try.f105.body.getD .skip) Try.func105 (by decide) rfl
theorem cf106 : ∀ args w, (callFunc 106 args).run Try.prog w = .ok (.enter 106 args) w := enter_ok (c := Try.f106.body.getD .skip) Try.func106 (by decide) rfl
theorem cf107 : ∀ args w, (callFunc 107 args).run Try.prog w = .ok (.enter 107 args) w := enter_ok (c := Try.f107.body.getD .skip) Try.func107 (by decide) rfl
theorem cf108 : ∀ args w, (callFunc 108 args).run Try.prog w = .ok (.enter 108 args) w := enter_ok (c := Try.f108.body.getD .skip) Try.func108 (by decide) rfl
theorem cf109 : ∀ args w, (callFunc 109 args).run Try.prog w = .ok (.enter 109 args) w := enter_ok (c := Try.f109.body.getD .skip) Try.func109 (by decide) rfl
theorem cf110 : ∀ args w, (callFunc 110 args).run Try.prog w = .ok (.enter 110 args) w := enter_ok (c := Try.f110.body.getD .skip) Try.func110 (by decide) rfl
theorem cf111 : ∀ args w, (callFunc 111 args).run Try.prog w = .ok (.enter 111 args) w := enter_ok (c := Try.f111.body.getD .skip) Try.func111 (by decide) rfl
theorem cf112 : ∀ args w, (callFunc 112 args).run Try.prog w = .ok (.enter 112 args) w := enter_ok (c := Try.f112.body.getD .skip) Try.func112 (by decide) rfl
theorem cf113 : ∀ args w, (callFunc 113 args).run Try.prog w = .ok (.enter 113 args) w := enter_ok (c := Try.f113.body.getD .skip) Try.func113 (by decide) rfl
theorem cf114 : ∀ args w, (callFunc 114 args).run Try.prog w = .ok (.enter 114 args) w := enter_ok (c := Try.f114.body.getD .skip) Try.func114 (by decide) rfl
theorem cf115 : ∀ args w, (callFunc 115 args).run Try.prog w = .ok (.enter 115 args) w := enter_ok (c := Try.f115.body.getD .skip) Try.func115 (by decide) rfl
theorem cf116 : ∀ args w, (callFunc 116 args).run Try.prog w = .ok (.enter 116 args) w := enter_ok (c := Try.f116.body.getD .skip) Try.func116 (by decide) rfl
theorem cf117 : ∀ args w, (callFunc 117 args).run Try.prog w = .ok (.enter 117 args) w := enter_ok (c := Try.f117.body.getD .skip) Try.func117 (by decide) rfl
theorem cf118 : ∀ args w, (callFunc 118 args).run Try.prog w = .ok (.enter 118 args) w := enter_ok (c := Try.f118.body.getD .skip) Try.func118 (by decide) rfl
theorem cf119 : ∀ args w, (callFunc 119 args).run Try.prog w = .ok (.enter 119 args) w := enter_ok (c := Try.f119.body.getD .skip) Try.func119 (by decide) rfl
theorem cf120 : ∀ args w, (callFunc 120 args).run Try.prog w = .ok (.enter 120 args) w := enter_ok (c := Try.f120.body.getD .skip) Try.func120 (by decide) rfl
theorem cf121 : ∀ args w, (callFunc 121 args).run Try.prog w = .ok (.enter 121 args) w := enter_ok (c := Try.f121.body.getD .skip) Try.func121 (by decide) rfl
theorem cf122 : ∀ args w, (callFunc 122 args).run Try.prog w = .ok (.enter 122 args) w := enter_ok (c := Try.f122.body.getD .skip) Try.func122 (by decide) rfl
theorem cf123 : ∀ args w, (callFunc 123 args).run Try.prog w = .ok (.enter 123 args) w := enter_ok (c := Try.f123.body.getD .skip) Try.func123 (by decide) rfl
theorem cf124 : ∀ args w, (callFunc 124 args).run Try.prog w = .ok (.enter 124 args) w := enter_ok (c := Try.f124.body.getD .skip) Try.func124 (by decide) rfl
theorem cf125 : ∀ args w, (callFunc 125 args).run Try.prog w = .ok (.enter 125 args) w := enter_ok (c := Try.f125.body.getD .skip) Try.func125 (by decide) rfl
theorem cf126 : ∀ args w, (callFunc 126 args).run Try.prog w = .ok (.enter 126 args) w := enter_ok (c := Try.f126.body.getD .skip) Try.func126 (by decide) rfl
theorem cf127 : ∀ args w, (callFunc 127 args).run Try.prog w = .ok (.enter 127 args) w := enter_ok (c := Try.f127.body.getD .skip) Try.func127 (by decide) rfl
theorem cf128 : ∀ args w, (callFunc 128 args).run Try.prog w = .ok (.enter 128 args) w := enter_ok (c := Try.f128.body.getD .skip) Try.func128 (by decide) rfl
theorem cf129 : ∀ args w, (callFunc 129 args).run Try.prog w = .ok (.enter 129 args) w := enter_ok (c := Try.f129.body.getD .skip) Try.func129 (by decide) rfl
theorem cf130 : ∀ args w, (callFunc 130 args).run Try.prog w = .ok (.enter 130 args) w := enter_ok (c := Try.f130.body.getD .skip) Try.func130 (by decide) rfl
theorem cf131 : ∀ args w, (callFunc 131 args).run Try.prog w = .ok (.enter 131 args) w := enter_ok (c := Try.f131.body.getD .skip) Try.func131 (by decide) rfl
theorem cf132 : ∀ args w, (callFunc 132 args).run Try.prog w = .ok (.enter 132 args) w := enter_ok (c := Try.f132.body.getD .skip) Try.func132 (by decide) rfl
theorem cf133 : ∀ args w, (callFunc 133 args).run Try.prog w = .ok (.enter 133 args) w := enter_ok (c := Try.f133.body.getD .skip) Try.func133 (by decide) rfl
theorem cf134 : ∀ args w, (callFunc 134 args).run Try.prog w = .ok (.enter 134 args) w := enter_ok (c := Try.f134.body.getD .skip) Try.func134 (by decide) rfl
theorem cf135 : ∀ args w, (callFunc 135 args).run Try.prog w = .ok (.enter 135 args) w := enter_ok (c := Try.f135.body.getD .skip) Try.func135 (by decide) rfl
theorem cf136 : ∀ args w, (callFunc 136 args).run Try.prog w = .ok (.enter 136 args) w := enter_ok (c := Try.f136.body.getD .skip) Try.func136 (by decide) rfl
theorem cf137 : ∀ args w, (callFunc 137 args).run Try.prog w = .ok (.enter 137 args) w := enter_ok (c := Try.f137.body.getD .skip) Try.func137 (by decide) rfl
theorem cf138 : ∀ args w, (callFunc 138 args).run Try.prog w = .ok (.enter 138 args) w := enter_ok (c := Try.f138.body.getD .skip) Try.func138 (by decide) rfl
theorem cf139 : ∀ args w, (callFunc 139 args).run Try.prog w = .ok (.enter 139 args) w := enter_ok (c := Try.f139.body.getD .skip) Try.func139 (by decide) rfl
theorem cf140 : ∀ args w, (callFunc 140 args).run Try.prog w = .ok (.enter 140 args) w := enter_ok (c := Try.f140.body.getD .skip) Try.func140 (by decide) rfl
theorem cf142 : ∀ args w, (callFunc 142 args).run Try.prog w = .ok (.enter 142 args) w := enter_ok (c := Try.f142.body.getD .skip) Try.func142 (by decide) rfl
theorem cf143 : ∀ args w, (callFunc 143 args).run Try.prog w = .ok (.enter 143 args) w := enter_ok (c := Try.f143.body.getD .skip) Try.func143 (by decide) rfl
theorem cf144 : ∀ args w, (callFunc 144 args).run Try.prog w = .ok (.enter 144 args) w := enter_ok (c := Try.f144.body.getD .skip) Try.func144 (by decide) rfl
theorem cf145 : ∀ args w, (callFunc 145 args).run Try.prog w = .ok (.enter 145 args) w := enter_ok (c := Try.f145.body.getD .skip) Try.func145 (by decide) rfl
theorem cf146 : ∀ args w, (callFunc 146 args).run Try.prog w = .ok (.enter 146 args) w := enter_ok (c := Try.f146.body.getD .skip) Try.func146 (by decide) rfl
theorem cf147 : ∀ args w, (callFunc 147 args).run Try.prog w = .ok (.enter 147 args) w := enter_ok (c := Try.f147.body.getD .skip) Try.func147 (by decide) rfl
theorem cf148 : ∀ args w, (callFunc 148 args).run Try.prog w = .ok (.enter 148 args) w := enter_ok (c := Try.f148.body.getD .skip) Try.func148 (by decide) rfl
theorem cf149 : ∀ args w, (callFunc 149 args).run Try.prog w = .ok (.enter 149 args) w := enter_ok (c := Try.f149.body.getD .skip) Try.func149 (by decide) rfl
theorem cf150 : ∀ args w, (callFunc 150 args).run Try.prog w = .ok (.enter 150 args) w := enter_ok (c := Try.f150.body.getD .skip) Try.func150 (by decide) rfl
theorem cf151 : ∀ args w, (callFunc 151 args).run Try.prog w = .ok (.enter 151 args) w := enter_ok (c := Try.f151.body.getD .skip) Try.func151 (by decide) rfl
theorem cf152 : ∀ args w, (callFunc 152 args).run Try.prog w = .ok (.enter 152 args) w := enter_ok (c := Try.f152.body.getD .skip) Try.func152 (by decide) rfl
theorem cf153 : ∀ args w, (callFunc 153 args).run Try.prog w = .ok (.enter 153 args) w := enter_ok (c := Try.f153.body.getD .skip) Try.func153 (by decide) rfl
theorem cf154 : ∀ args w, (callFunc 154 args).run Try.prog w = .ok (.enter 154 args) w := enter_ok (c := Try.f154.body.getD .skip) Try.func154 (by decide) rfl
theorem cf155 : ∀ args w, (callFunc 155 args).run Try.prog w = .ok (.enter 155 args) w := enter_ok (c := Try.f155.body.getD .skip) Try.func155 (by decide) rfl
theorem cf156 : ∀ args w, (callFunc 156 args).run Try.prog w = .ok (.enter 156 args) w := enter_ok (c := Try.f156.body.getD .skip) Try.func156 (by decide) rfl
theorem cf157 : ∀ args w, (callFunc 157 args).run Try.prog w = .ok (.enter 157 args) w := enter_ok (c := Try.f157.body.getD .skip) Try.func157 (by decide) rfl
theorem cf158 : ∀ args w, (callFunc 158 args).run Try.prog w = .ok (.enter 158 args) w := enter_ok (c := Try.f158.body.getD .skip) Try.func158 (by decide) rfl
theorem cf159 : ∀ args w, (callFunc 159 args).run Try.prog w = .ok (.enter 159 args) w := enter_ok (c := Try.f159.body.getD .skip) Try.func159 (by decide) rfl
theorem cf160 : ∀ args w, (callFunc 160 args).run Try.prog w = .ok (.enter 160 args) w := enter_ok (c := Try.f160.body.getD .skip) Try.func160 (by decide) rfl
theorem cf161 : ∀ args w, (callFunc 161 args).run Try.prog w = .ok (.enter 161 args) w := enter_ok (c := Try.f161.body.getD .skip) Try.func161 (by decide) rfl
theorem cf162 : ∀ args w, (callFunc 162 args).run Try.prog w = .ok (.enter 162 args) w := enter_ok (c := Try.f162.body.getD .skip) Try.func162 (by decide) rfl
theorem cf163 : ∀ args w, (callFunc 163 args).run Try.prog w = .ok (.enter 163 args) w := enter_ok (c := Try.f163.body.getD .skip) Try.func163 (by decide) rfl
theorem cf164 : ∀ args w, (callFunc 164 args).run Try.prog w = .ok (.enter 164 args) w := enter_ok (c := Try.f164.body.getD .skip) Try.func164 (by decide) rfl
theorem cf165 : ∀ args w, (callFunc 165 args).run Try.prog w = .ok (.enter 165 args) w := enter_ok (c := Try.f165.body.getD .skip) Try.func165 (by decide) rfl
theorem cf166 : ∀ args w, (callFunc 166 args).run Try.prog w = .ok (.enter 166 args) w := enter_ok (c := Try.f166.body.getD .skip) Try.func166 (by decide) rfl
theorem cf167 : ∀ args w, (callFunc 167 args).run Try.prog w = .ok (.enter 167 args) w := enter_ok (c := Try.f167.body.getD .skip) Try.func167 (by decide) rfl
theorem cf168 : ∀ args w, (callFunc 168 args).run Try.prog w = .ok (.enter 168 args) w := enter_ok (c := Try.f168.body.getD .skip) Try.func168 (by decide) rfl
theorem cf169 : ∀ args w, (callFunc 169 args).run Try.prog w = .ok (.enter 169 args) w := enter_ok (c := Try.f169.body.getD .skip) Try.func169 (by decide) rfl
theorem cf170 : ∀ args w, (callFunc 170 args).run Try.prog w = .ok (.enter 170 args) w := enter_ok (c := Try.f170.body.getD .skip) Try.func170 (by decide) rfl
theorem cf171 : ∀ args w, (callFunc 171 args).run Try.prog w = .ok (.enter 171 args) w := enter_ok (c := Try.f171.body.getD .skip) Try.func171 (by decide) rfl
theorem cf172 : ∀ args w, (callFunc 172 args).run Try.prog w = .ok (.enter 172 args) w := enter_ok (c := Try.f172.body.getD .skip) Try.func172 (by decide) rfl
theorem cf173 : ∀ args w, (callFunc 173 args).run Try.prog w = .ok (.enter 173 args) w := enter_ok (c := Try.f173.body.getD .skip) Try.func173 (by decide) rfl
theorem cf174 : ∀ args w, (callFunc 174 args).run Try.prog w = .ok (.enter 174 args) w := enter_ok (c := Try.f174.body.getD .skip) Try.func174 (by decide) rfl
theorem cf175 : ∀ args w, (callFunc 175 args).run Try.prog w = .ok (.enter 175 args) w := enter_ok (c := Try.f175.body.getD .skip) Try.func175 (by decide) rfl
theorem cf176 : ∀ args w, (callFunc 176 args).run Try.prog w = .ok (.enter 176 args) w := enter_ok (c := Try.f176.body.getD .skip) Try.func176 (by decide) rfl
theorem cf177 : ∀ args w, (callFunc 177 args).run Try.prog w = .ok (.enter 177 args) w := enter_ok (c := Try.f177.body.getD .skip) Try.func177 (by decide) rfl
theorem cf178 : ∀ args w, (callFunc 178 args).run Try.prog w = .ok (.enter 178 args) w := enter_ok (c := Try.f178.body.getD .skip) Try.func178 (by decide) rfl
theorem cf179 : ∀ args w, (callFunc 179 args).run Try.prog w = .ok (.enter 179 args) w := enter_ok (c := Try.f179.body.getD .skip) Try.func179 (by decide) rfl
theorem cf180 : ∀ args w, (callFunc 180 args).run Try.prog w = .ok (.enter 180 args) w := enter_ok (c := Try.f180.body.getD .skip) Try.func180 (by decide) rfl
theorem cf181 : ∀ args w, (callFunc 181 args).run Try.prog w = .ok (.enter 181 args) w := enter_ok (c := Try.f181.body.getD .skip) Try.func181 (by decide) rfl
theorem cf182 : ∀ args w, (callFunc 182 args).run Try.prog w = .ok (.enter 182 args) w := enter_ok (c := Try.f182.body.getD .skip) Try.func182 (by decide) rfl
end Go.Proofs.Ytkcighnochjlgaa
