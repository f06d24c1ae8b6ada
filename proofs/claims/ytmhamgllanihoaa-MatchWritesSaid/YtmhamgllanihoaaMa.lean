import Derived.Test.YtmhamgllanihoaaRows
import Derived.Test.YtmhamgllanihoaaLb
import Derived.MapKept
namespace Go.Abs.M
open Go Go.Abs Go.Proofs
theorem ok2 : okT Try.prog 2 = true := by kernel_rfl
theorem sz2 : szT Try.prog 2 = 1 := by kernel_rfl
theorem ag2 : aggT Try.prog 2 = false := by kernel_rfl
theorem zt2 : zeroT Try.prog 2 = some (.int Go.IntKind.i64 (0)) := by kernel_rfl
theorem by2 : Program.bytesOf Try.prog 2 = 8 := by kernel_rfl
theorem sl2 : slT Try.prog 2 = false := by kernel_rfl
theorem st2 : strT Try.prog 2 = false := by kernel_rfl
theorem ok3 : okT Try.prog 3 = true := by kernel_rfl
theorem sz3 : szT Try.prog 3 = 1 := by kernel_rfl
theorem ag3 : aggT Try.prog 3 = false := by kernel_rfl
theorem zt3 : zeroT Try.prog 3 = some (.int Go.IntKind.i64 (0)) := by kernel_rfl
theorem by3 : Program.bytesOf Try.prog 3 = 8 := by kernel_rfl
theorem sl3 : slT Try.prog 3 = false := by kernel_rfl
theorem st3 : strT Try.prog 3 = false := by kernel_rfl
theorem ok4 : okT Try.prog 4 = true := by kernel_rfl
theorem sz4 : szT Try.prog 4 = 1 := by kernel_rfl
theorem ag4 : aggT Try.prog 4 = false := by kernel_rfl
theorem zt4 : zeroT Try.prog 4 = some (.bool false) := by kernel_rfl
theorem by4 : Program.bytesOf Try.prog 4 = 1 := by kernel_rfl
theorem sl4 : slT Try.prog 4 = false := by kernel_rfl
theorem st4 : strT Try.prog 4 = false := by kernel_rfl
theorem un4 : Program.underlying Try.prog 4 = some .bool := by kernel_rfl
theorem ok5 : okT Try.prog 5 = true := by kernel_rfl
theorem sz5 : szT Try.prog 5 = 1 := by kernel_rfl
theorem ag5 : aggT Try.prog 5 = false := by kernel_rfl
theorem zt5 : zeroT Try.prog 5 = some (.int Go.IntKind.u8 (0)) := by kernel_rfl
theorem by5 : Program.bytesOf Try.prog 5 = 1 := by kernel_rfl
theorem sl5 : slT Try.prog 5 = false := by kernel_rfl
theorem st5 : strT Try.prog 5 = false := by kernel_rfl
theorem ok6 : okT Try.prog 6 = true := by kernel_rfl
theorem sz6 : szT Try.prog 6 = 1 := by kernel_rfl
theorem ag6 : aggT Try.prog 6 = false := by kernel_rfl
theorem zt6 : zeroT Try.prog 6 = some (.int Go.IntKind.u8 (0)) := by kernel_rfl
theorem by6 : Program.bytesOf Try.prog 6 = 1 := by kernel_rfl
theorem sl6 : slT Try.prog 6 = false := by kernel_rfl
theorem st6 : strT Try.prog 6 = false := by kernel_rfl
theorem ok7 : okT Try.prog 7 = true := by kernel_rfl
theorem sz7 : szT Try.prog 7 = 4 := by kernel_rfl
theorem ag7 : aggT Try.prog 7 = true := by kernel_rfl
theorem zt7 : zeroT Try.prog 7 = some (.agg #[.int Go.IntKind.i64 (0), .int Go.IntKind.i64 (0), .bool false, .int Go.IntKind.u8 (0)]) := by kernel_rfl
theorem by7 : Program.bytesOf Try.prog 7 = 24 := by kernel_rfl
theorem sl7 : slT Try.prog 7 = false := by kernel_rfl
theorem st7 : strT Try.prog 7 = false := by kernel_rfl
theorem of7_0 : offT Try.prog 7 0 = some 0 := by kernel_rfl
theorem of7_1 : offT Try.prog 7 1 = some 1 := by kernel_rfl
theorem of7_2 : offT Try.prog 7 2 = some 2 := by kernel_rfl
theorem of7_3 : offT Try.prog 7 3 = some 3 := by kernel_rfl
theorem pl7 : placeT Try.prog 7 = some (fun i => (#[(0, 1), (1, 1), (2, 1), (3, 1)] : Array (Nat × Nat))[i]?) := by kernel_rfl
theorem ok8 : okT Try.prog 8 = true := by kernel_rfl
theorem sz8 : szT Try.prog 8 = 4 := by kernel_rfl
theorem ag8 : aggT Try.prog 8 = true := by kernel_rfl
theorem zt8 : zeroT Try.prog 8 = some (.agg #[.int Go.IntKind.i64 (0), .int Go.IntKind.i64 (0), .bool false, .int Go.IntKind.u8 (0)]) := by kernel_rfl
theorem by8 : Program.bytesOf Try.prog 8 = 24 := by kernel_rfl
theorem sl8 : slT Try.prog 8 = false := by kernel_rfl
theorem st8 : strT Try.prog 8 = false := by kernel_rfl
theorem of8_0 : offT Try.prog 8 0 = some 0 := by kernel_rfl
theorem of8_1 : offT Try.prog 8 1 = some 1 := by kernel_rfl
theorem of8_2 : offT Try.prog 8 2 = some 2 := by kernel_rfl
theorem of8_3 : offT Try.prog 8 3 = some 3 := by kernel_rfl
theorem pl8 : placeT Try.prog 8 = some (fun i => (#[(0, 1), (1, 1), (2, 1), (3, 1)] : Array (Nat × Nat))[i]?) := by kernel_rfl
theorem ok9 : okT Try.prog 9 = true := by kernel_rfl
theorem sz9 : szT Try.prog 9 = 1 := by kernel_rfl
theorem ag9 : aggT Try.prog 9 = false := by kernel_rfl
theorem zt9 : zeroT Try.prog 9 = some (.string ⟨#[]⟩) := by kernel_rfl
theorem by9 : Program.bytesOf Try.prog 9 = 16 := by kernel_rfl
theorem sl9 : slT Try.prog 9 = false := by kernel_rfl
theorem st9 : strT Try.prog 9 = true := by kernel_rfl
theorem ok10 : okT Try.prog 10 = true := by kernel_rfl
theorem sz10 : szT Try.prog 10 = 1 := by kernel_rfl
theorem ag10 : aggT Try.prog 10 = false := by kernel_rfl
theorem zt10 : zeroT Try.prog 10 = some (.string ⟨#[]⟩) := by kernel_rfl
theorem by10 : Program.bytesOf Try.prog 10 = 16 := by kernel_rfl
theorem sl10 : slT Try.prog 10 = false := by kernel_rfl
theorem st10 : strT Try.prog 10 = true := by kernel_rfl
theorem ok11 : okT Try.prog 11 = true := by kernel_rfl
theorem sz11 : szT Try.prog 11 = 1 := by kernel_rfl
theorem ag11 : aggT Try.prog 11 = false := by kernel_rfl
theorem zt11 : zeroT Try.prog 11 = some (.string ⟨#[]⟩) := by kernel_rfl
theorem by11 : Program.bytesOf Try.prog 11 = 16 := by kernel_rfl
theorem sl11 : slT Try.prog 11 = false := by kernel_rfl
theorem st11 : strT Try.prog 11 = true := by kernel_rfl
theorem ok12 : okT Try.prog 12 = true := by kernel_rfl
theorem sz12 : szT Try.prog 12 = 1 := by kernel_rfl
theorem ag12 : aggT Try.prog 12 = false := by kernel_rfl
theorem zt12 : zeroT Try.prog 12 = some (.int Go.IntKind.u64 (0)) := by kernel_rfl
theorem by12 : Program.bytesOf Try.prog 12 = 8 := by kernel_rfl
theorem sl12 : slT Try.prog 12 = false := by kernel_rfl
theorem st12 : strT Try.prog 12 = false := by kernel_rfl
theorem ok13 : okT Try.prog 13 = true := by kernel_rfl
theorem sz13 : szT Try.prog 13 = 2 := by kernel_rfl
theorem ag13 : aggT Try.prog 13 = true := by kernel_rfl
theorem zt13 : zeroT Try.prog 13 = some (.agg #[.string ⟨#[]⟩, .int Go.IntKind.u64 (0)]) := by kernel_rfl
theorem by13 : Program.bytesOf Try.prog 13 = 24 := by kernel_rfl
theorem sl13 : slT Try.prog 13 = false := by kernel_rfl
theorem st13 : strT Try.prog 13 = false := by kernel_rfl
theorem of13_0 : offT Try.prog 13 0 = some 0 := by kernel_rfl
theorem of13_1 : offT Try.prog 13 1 = some 1 := by kernel_rfl
theorem pl13 : placeT Try.prog 13 = some (fun i => (#[(0, 1), (1, 1)] : Array (Nat × Nat))[i]?) := by kernel_rfl
theorem ok14 : okT Try.prog 14 = true := by kernel_rfl
theorem sz14 : szT Try.prog 14 = 2 := by kernel_rfl
theorem ag14 : aggT Try.prog 14 = true := by kernel_rfl
theorem zt14 : zeroT Try.prog 14 = some (.agg #[.string ⟨#[]⟩, .int Go.IntKind.u64 (0)]) := by kernel_rfl
theorem by14 : Program.bytesOf Try.prog 14 = 24 := by kernel_rfl
theorem sl14 : slT Try.prog 14 = false := by kernel_rfl
theorem st14 : strT Try.prog 14 = false := by kernel_rfl
theorem of14_0 : offT Try.prog 14 0 = some 0 := by kernel_rfl
theorem of14_1 : offT Try.prog 14 1 = some 1 := by kernel_rfl
theorem pl14 : placeT Try.prog 14 = some (fun i => (#[(0, 1), (1, 1)] : Array (Nat × Nat))[i]?) := by kernel_rfl
theorem ok15 : okT Try.prog 15 = true := by kernel_rfl
theorem sz15 : szT Try.prog 15 = 1 := by kernel_rfl
theorem ag15 : aggT Try.prog 15 = false := by kernel_rfl
theorem zt15 : zeroT Try.prog 15 = some (.pointer none) := by kernel_rfl
theorem by15 : Program.bytesOf Try.prog 15 = 8 := by kernel_rfl
theorem sl15 : slT Try.prog 15 = false := by kernel_rfl
theorem st15 : strT Try.prog 15 = false := by kernel_rfl
theorem un15 : Program.underlying Try.prog 15 = some (.pointer 186) := by kernel_rfl
theorem ok16 : okT Try.prog 16 = true := by kernel_rfl
theorem sz16 : szT Try.prog 16 = 1 := by kernel_rfl
theorem ag16 : aggT Try.prog 16 = false := by kernel_rfl
theorem zt16 : zeroT Try.prog 16 = some (.pointer none) := by kernel_rfl
theorem by16 : Program.bytesOf Try.prog 16 = 8 := by kernel_rfl
theorem sl16 : slT Try.prog 16 = false := by kernel_rfl
theorem st16 : strT Try.prog 16 = false := by kernel_rfl
theorem un16 : Program.underlying Try.prog 16 = some (.pointer 189) := by kernel_rfl
theorem ok17 : okT Try.prog 17 = true := by kernel_rfl
theorem sz17 : szT Try.prog 17 = 1 := by kernel_rfl
theorem ag17 : aggT Try.prog 17 = false := by kernel_rfl
theorem zt17 : zeroT Try.prog 17 = some (.pointer none) := by kernel_rfl
theorem by17 : Program.bytesOf Try.prog 17 = 8 := by kernel_rfl
theorem sl17 : slT Try.prog 17 = false := by kernel_rfl
theorem st17 : strT Try.prog 17 = false := by kernel_rfl
theorem un17 : Program.underlying Try.prog 17 = some (.pointer 198) := by kernel_rfl
theorem ok18 : okT Try.prog 18 = true := by kernel_rfl
theorem sz18 : szT Try.prog 18 = 1 := by kernel_rfl
theorem ag18 : aggT Try.prog 18 = true := by kernel_rfl
theorem zt18 : zeroT Try.prog 18 = some (.agg #[.pointer none]) := by kernel_rfl
theorem by18 : Program.bytesOf Try.prog 18 = 8 := by kernel_rfl
theorem sl18 : slT Try.prog 18 = false := by kernel_rfl
theorem st18 : strT Try.prog 18 = false := by kernel_rfl
theorem of18_0 : offT Try.prog 18 0 = some 0 := by kernel_rfl
theorem pl18 : placeT Try.prog 18 = some (fun i => (#[(0, 1)] : Array (Nat × Nat))[i]?) := by kernel_rfl
theorem ok19 : okT Try.prog 19 = true := by kernel_rfl
theorem sz19 : szT Try.prog 19 = 1 := by kernel_rfl
theorem ag19 : aggT Try.prog 19 = true := by kernel_rfl
theorem zt19 : zeroT Try.prog 19 = some (.agg #[.pointer none]) := by kernel_rfl
theorem by19 : Program.bytesOf Try.prog 19 = 8 := by kernel_rfl
theorem sl19 : slT Try.prog 19 = false := by kernel_rfl
theorem st19 : strT Try.prog 19 = false := by kernel_rfl
theorem of19_0 : offT Try.prog 19 0 = some 0 := by kernel_rfl
theorem pl19 : placeT Try.prog 19 = some (fun i => (#[(0, 1)] : Array (Nat × Nat))[i]?) := by kernel_rfl
theorem ok21 : okT Try.prog 21 = true := by kernel_rfl
theorem sz21 : szT Try.prog 21 = 1 := by kernel_rfl
theorem ag21 : aggT Try.prog 21 = false := by kernel_rfl
theorem zt21 : zeroT Try.prog 21 = some (.int Go.IntKind.i32 (0)) := by kernel_rfl
theorem by21 : Program.bytesOf Try.prog 21 = 4 := by kernel_rfl
theorem sl21 : slT Try.prog 21 = false := by kernel_rfl
theorem st21 : strT Try.prog 21 = false := by kernel_rfl
theorem ok22 : okT Try.prog 22 = true := by kernel_rfl
theorem sz22 : szT Try.prog 22 = 1 := by kernel_rfl
theorem ag22 : aggT Try.prog 22 = false := by kernel_rfl
theorem zt22 : zeroT Try.prog 22 = some (.slice none 0 0) := by kernel_rfl
theorem by22 : Program.bytesOf Try.prog 22 = 24 := by kernel_rfl
theorem sl22 : slT Try.prog 22 = true := by kernel_rfl
theorem el22 : Program.elem Try.prog 22 = 42 := by kernel_rfl
theorem st22 : strT Try.prog 22 = false := by kernel_rfl
theorem ok23 : okT Try.prog 23 = true := by kernel_rfl
theorem sz23 : szT Try.prog 23 = 1 := by kernel_rfl
theorem ag23 : aggT Try.prog 23 = true := by kernel_rfl
theorem zt23 : zeroT Try.prog 23 = some (.agg #[.slice none 0 0]) := by kernel_rfl
theorem by23 : Program.bytesOf Try.prog 23 = 24 := by kernel_rfl
theorem sl23 : slT Try.prog 23 = false := by kernel_rfl
theorem st23 : strT Try.prog 23 = false := by kernel_rfl
theorem of23_0 : offT Try.prog 23 0 = some 0 := by kernel_rfl
theorem pl23 : placeT Try.prog 23 = some (fun i => (#[(0, 1)] : Array (Nat × Nat))[i]?) := by kernel_rfl
theorem ok24 : okT Try.prog 24 = true := by kernel_rfl
theorem sz24 : szT Try.prog 24 = 1 := by kernel_rfl
theorem ag24 : aggT Try.prog 24 = true := by kernel_rfl
theorem zt24 : zeroT Try.prog 24 = some (.agg #[.slice none 0 0]) := by kernel_rfl
theorem by24 : Program.bytesOf Try.prog 24 = 24 := by kernel_rfl
theorem sl24 : slT Try.prog 24 = false := by kernel_rfl
theorem st24 : strT Try.prog 24 = false := by kernel_rfl
theorem of24_0 : offT Try.prog 24 0 = some 0 := by kernel_rfl
theorem pl24 : placeT Try.prog 24 = some (fun i => (#[(0, 1)] : Array (Nat × Nat))[i]?) := by kernel_rfl
theorem ok29 : okT Try.prog 29 = true := by kernel_rfl
theorem sz29 : szT Try.prog 29 = 1 := by kernel_rfl
theorem ag29 : aggT Try.prog 29 = false := by kernel_rfl
theorem zt29 : zeroT Try.prog 29 = some (.int Go.IntKind.i64 (0)) := by kernel_rfl
theorem by29 : Program.bytesOf Try.prog 29 = 8 := by kernel_rfl
theorem sl29 : slT Try.prog 29 = false := by kernel_rfl
theorem st29 : strT Try.prog 29 = false := by kernel_rfl
theorem ok32 : okT Try.prog 32 = true := by kernel_rfl
theorem sz32 : szT Try.prog 32 = 2 := by kernel_rfl
theorem ag32 : aggT Try.prog 32 = true := by kernel_rfl
theorem zt32 : zeroT Try.prog 32 = some (.agg #[.int Go.IntKind.i64 (0), .int Go.IntKind.i64 (0)]) := by kernel_rfl
theorem by32 : Program.bytesOf Try.prog 32 = 16 := by kernel_rfl
theorem sl32 : slT Try.prog 32 = false := by kernel_rfl
theorem st32 : strT Try.prog 32 = false := by kernel_rfl
theorem of32_0 : offT Try.prog 32 0 = some 0 := by kernel_rfl
theorem of32_1 : offT Try.prog 32 1 = some 1 := by kernel_rfl
theorem pl32 : placeT Try.prog 32 = some (fun i => (#[(0, 1), (1, 1)] : Array (Nat × Nat))[i]?) := by kernel_rfl
theorem ok33 : okT Try.prog 33 = true := by kernel_rfl
theorem sz33 : szT Try.prog 33 = 2 := by kernel_rfl
theorem ag33 : aggT Try.prog 33 = true := by kernel_rfl
theorem zt33 : zeroT Try.prog 33 = some (.agg #[.int Go.IntKind.i64 (0), .int Go.IntKind.i64 (0)]) := by kernel_rfl
theorem by33 : Program.bytesOf Try.prog 33 = 16 := by kernel_rfl
theorem sl33 : slT Try.prog 33 = false := by kernel_rfl
theorem st33 : strT Try.prog 33 = false := by kernel_rfl
theorem of33_0 : offT Try.prog 33 0 = some 0 := by kernel_rfl
theorem of33_1 : offT Try.prog 33 1 = some 1 := by kernel_rfl
theorem pl33 : placeT Try.prog 33 = some (fun i => (#[(0, 1), (1, 1)] : Array (Nat × Nat))[i]?) := by kernel_rfl
theorem ok34 : okT Try.prog 34 = true := by kernel_rfl
theorem sz34 : szT Try.prog 34 = 1 := by kernel_rfl
theorem ag34 : aggT Try.prog 34 = false := by kernel_rfl
theorem zt34 : zeroT Try.prog 34 = some (.slice none 0 0) := by kernel_rfl
theorem by34 : Program.bytesOf Try.prog 34 = 24 := by kernel_rfl
theorem sl34 : slT Try.prog 34 = true := by kernel_rfl
theorem el34 : Program.elem Try.prog 34 = 143 := by kernel_rfl
theorem st34 : strT Try.prog 34 = false := by kernel_rfl
theorem ok35 : okT Try.prog 35 = true := by kernel_rfl
theorem sz35 : szT Try.prog 35 = 5 := by kernel_rfl
theorem ag35 : aggT Try.prog 35 = true := by kernel_rfl
theorem zt35 : zeroT Try.prog 35 = some (.agg #[.int Go.IntKind.i64 (0), .int Go.IntKind.i64 (0), .int Go.IntKind.i64 (0), .string ⟨#[]⟩, .slice none 0 0]) := by kernel_rfl
theorem by35 : Program.bytesOf Try.prog 35 = 64 := by kernel_rfl
theorem sl35 : slT Try.prog 35 = false := by kernel_rfl
theorem st35 : strT Try.prog 35 = false := by kernel_rfl
theorem of35_0 : offT Try.prog 35 0 = some 0 := by kernel_rfl
theorem of35_1 : offT Try.prog 35 1 = some 2 := by kernel_rfl
theorem of35_2 : offT Try.prog 35 2 = some 3 := by kernel_rfl
theorem of35_3 : offT Try.prog 35 3 = some 4 := by kernel_rfl
theorem pl35 : placeT Try.prog 35 = some (fun i => (#[(0, 2), (2, 1), (3, 1), (4, 1)] : Array (Nat × Nat))[i]?) := by kernel_rfl
theorem ok36 : okT Try.prog 36 = true := by kernel_rfl
theorem sz36 : szT Try.prog 36 = 5 := by kernel_rfl
theorem ag36 : aggT Try.prog 36 = true := by kernel_rfl
theorem zt36 : zeroT Try.prog 36 = some (.agg #[.int Go.IntKind.i64 (0), .int Go.IntKind.i64 (0), .int Go.IntKind.i64 (0), .string ⟨#[]⟩, .slice none 0 0]) := by kernel_rfl
theorem by36 : Program.bytesOf Try.prog 36 = 64 := by kernel_rfl
theorem sl36 : slT Try.prog 36 = false := by kernel_rfl
theorem st36 : strT Try.prog 36 = false := by kernel_rfl
theorem of36_0 : offT Try.prog 36 0 = some 0 := by kernel_rfl
theorem of36_1 : offT Try.prog 36 1 = some 2 := by kernel_rfl
theorem of36_2 : offT Try.prog 36 2 = some 3 := by kernel_rfl
theorem of36_3 : offT Try.prog 36 3 = some 4 := by kernel_rfl
theorem pl36 : placeT Try.prog 36 = some (fun i => (#[(0, 2), (2, 1), (3, 1), (4, 1)] : Array (Nat × Nat))[i]?) := by kernel_rfl
theorem ok41 : okT Try.prog 41 = true := by kernel_rfl
theorem sz41 : szT Try.prog 41 = 6 := by kernel_rfl
theorem ag41 : aggT Try.prog 41 = true := by kernel_rfl
theorem zt41 : zeroT Try.prog 41 = some (.agg #[.string ⟨#[]⟩, .int Go.IntKind.i64 (0), .int Go.IntKind.i64 (0), .int Go.IntKind.i64 (0), .string ⟨#[]⟩, .slice none 0 0]) := by kernel_rfl
theorem by41 : Program.bytesOf Try.prog 41 = 80 := by kernel_rfl
theorem sl41 : slT Try.prog 41 = false := by kernel_rfl
theorem st41 : strT Try.prog 41 = false := by kernel_rfl
theorem of41_0 : offT Try.prog 41 0 = some 0 := by kernel_rfl
theorem of41_1 : offT Try.prog 41 1 = some 1 := by kernel_rfl
theorem pl41 : placeT Try.prog 41 = some (fun i => (#[(0, 1), (1, 5)] : Array (Nat × Nat))[i]?) := by kernel_rfl
theorem ok42 : okT Try.prog 42 = true := by kernel_rfl
theorem sz42 : szT Try.prog 42 = 6 := by kernel_rfl
theorem ag42 : aggT Try.prog 42 = true := by kernel_rfl
theorem zt42 : zeroT Try.prog 42 = some (.agg #[.string ⟨#[]⟩, .int Go.IntKind.i64 (0), .int Go.IntKind.i64 (0), .int Go.IntKind.i64 (0), .string ⟨#[]⟩, .slice none 0 0]) := by kernel_rfl
theorem by42 : Program.bytesOf Try.prog 42 = 80 := by kernel_rfl
theorem sl42 : slT Try.prog 42 = false := by kernel_rfl
theorem st42 : strT Try.prog 42 = false := by kernel_rfl
theorem of42_0 : offT Try.prog 42 0 = some 0 := by kernel_rfl
theorem of42_1 : offT Try.prog 42 1 = some 1 := by kernel_rfl
theorem pl42 : placeT Try.prog 42 = some (fun i => (#[(0, 1), (1, 5)] : Array (Nat × Nat))[i]?) := by kernel_rfl
theorem ok48 : okT Try.prog 48 = true := by kernel_rfl
theorem sz48 : szT Try.prog 48 = 1 := by kernel_rfl
theorem ag48 : aggT Try.prog 48 = false := by kernel_rfl
theorem zt48 : zeroT Try.prog 48 = some (.slice none 0 0) := by kernel_rfl
theorem by48 : Program.bytesOf Try.prog 48 = 24 := by kernel_rfl
theorem sl48 : slT Try.prog 48 = true := by kernel_rfl
theorem el48 : Program.elem Try.prog 48 = 5 := by kernel_rfl
theorem st48 : strT Try.prog 48 = false := by kernel_rfl
theorem ok51 : okT Try.prog 51 = true := by kernel_rfl
theorem sz51 : szT Try.prog 51 = 1 := by kernel_rfl
theorem ag51 : aggT Try.prog 51 = false := by kernel_rfl
theorem zt51 : zeroT Try.prog 51 = some (.pointer none) := by kernel_rfl
theorem by51 : Program.bytesOf Try.prog 51 = 8 := by kernel_rfl
theorem sl51 : slT Try.prog 51 = false := by kernel_rfl
theorem st51 : strT Try.prog 51 = false := by kernel_rfl
theorem un51 : Program.underlying Try.prog 51 = some (.pointer 114) := by kernel_rfl
theorem ok54 : okT Try.prog 54 = true := by kernel_rfl
theorem sz54 : szT Try.prog 54 = 1 := by kernel_rfl
theorem ag54 : aggT Try.prog 54 = false := by kernel_rfl
theorem zt54 : zeroT Try.prog 54 = some (.int Go.IntKind.u64 (0)) := by kernel_rfl
theorem by54 : Program.bytesOf Try.prog 54 = 8 := by kernel_rfl
theorem sl54 : slT Try.prog 54 = false := by kernel_rfl
theorem st54 : strT Try.prog 54 = false := by kernel_rfl
theorem ok56 : okT Try.prog 56 = true := by kernel_rfl
theorem sz56 : szT Try.prog 56 = 1 := by kernel_rfl
theorem ag56 : aggT Try.prog 56 = false := by kernel_rfl
theorem zt56 : zeroT Try.prog 56 = some (.slice none 0 0) := by kernel_rfl
theorem by56 : Program.bytesOf Try.prog 56 = 24 := by kernel_rfl
theorem sl56 : slT Try.prog 56 = true := by kernel_rfl
theorem el56 : Program.elem Try.prog 56 = 4 := by kernel_rfl
theorem st56 : strT Try.prog 56 = false := by kernel_rfl
theorem ok64 : okT Try.prog 64 = true := by kernel_rfl
theorem sz64 : szT Try.prog 64 = 1 := by kernel_rfl
theorem ag64 : aggT Try.prog 64 = false := by kernel_rfl
theorem zt64 : zeroT Try.prog 64 = some (.slice none 0 0) := by kernel_rfl
theorem by64 : Program.bytesOf Try.prog 64 = 24 := by kernel_rfl
theorem sl64 : slT Try.prog 64 = true := by kernel_rfl
theorem el64 : Program.elem Try.prog 64 = 24 := by kernel_rfl
theorem st64 : strT Try.prog 64 = false := by kernel_rfl
theorem ok65 : okT Try.prog 65 = true := by kernel_rfl
theorem sz65 : szT Try.prog 65 = 1 := by kernel_rfl
theorem ag65 : aggT Try.prog 65 = false := by kernel_rfl
theorem zt65 : zeroT Try.prog 65 = some (.pointer none) := by kernel_rfl
theorem by65 : Program.bytesOf Try.prog 65 = 8 := by kernel_rfl
theorem sl65 : slT Try.prog 65 = false := by kernel_rfl
theorem st65 : strT Try.prog 65 = false := by kernel_rfl
theorem un65 : Program.underlying Try.prog 65 = some (.pointer 123) := by kernel_rfl
theorem ok72 : okT Try.prog 72 = true := by kernel_rfl
theorem sz72 : szT Try.prog 72 = 1 := by kernel_rfl
theorem ag72 : aggT Try.prog 72 = false := by kernel_rfl
theorem zt72 : zeroT Try.prog 72 = some (.pointer none) := by kernel_rfl
theorem by72 : Program.bytesOf Try.prog 72 = 8 := by kernel_rfl
theorem sl72 : slT Try.prog 72 = false := by kernel_rfl
theorem st72 : strT Try.prog 72 = false := by kernel_rfl
theorem un72 : Program.underlying Try.prog 72 = some (.pointer 76) := by kernel_rfl
theorem ok75 : okT Try.prog 75 = true := by kernel_rfl
theorem sz75 : szT Try.prog 75 = 1 := by kernel_rfl
theorem ag75 : aggT Try.prog 75 = true := by kernel_rfl
theorem zt75 : zeroT Try.prog 75 = some (.agg #[.slice none 0 0]) := by kernel_rfl
theorem by75 : Program.bytesOf Try.prog 75 = 24 := by kernel_rfl
theorem sl75 : slT Try.prog 75 = false := by kernel_rfl
theorem st75 : strT Try.prog 75 = false := by kernel_rfl
theorem of75_0 : offT Try.prog 75 0 = some 0 := by kernel_rfl
theorem pl75 : placeT Try.prog 75 = some (fun i => (#[(0, 1)] : Array (Nat × Nat))[i]?) := by kernel_rfl
theorem ok76 : okT Try.prog 76 = true := by kernel_rfl
theorem sz76 : szT Try.prog 76 = 1 := by kernel_rfl
theorem ag76 : aggT Try.prog 76 = true := by kernel_rfl
theorem zt76 : zeroT Try.prog 76 = some (.agg #[.slice none 0 0]) := by kernel_rfl
theorem by76 : Program.bytesOf Try.prog 76 = 24 := by kernel_rfl
theorem sl76 : slT Try.prog 76 = false := by kernel_rfl
theorem st76 : strT Try.prog 76 = false := by kernel_rfl
theorem of76_0 : offT Try.prog 76 0 = some 0 := by kernel_rfl
theorem pl76 : placeT Try.prog 76 = some (fun i => (#[(0, 1)] : Array (Nat × Nat))[i]?) := by kernel_rfl
theorem ok82 : okT Try.prog 82 = true := by kernel_rfl
theorem sz82 : szT Try.prog 82 = 1 := by kernel_rfl
theorem ag82 : aggT Try.prog 82 = false := by kernel_rfl
theorem zt82 : zeroT Try.prog 82 = some (.pointer none) := by kernel_rfl
theorem by82 : Program.bytesOf Try.prog 82 = 8 := by kernel_rfl
theorem sl82 : slT Try.prog 82 = false := by kernel_rfl
theorem st82 : strT Try.prog 82 = false := by kernel_rfl
theorem un82 : Program.underlying Try.prog 82 = some (.pointer 129) := by kernel_rfl
theorem ok84 : okT Try.prog 84 = true := by kernel_rfl
theorem sz84 : szT Try.prog 84 = 1 := by kernel_rfl
theorem ag84 : aggT Try.prog 84 = false := by kernel_rfl
theorem zt84 : zeroT Try.prog 84 = some (.pointer none) := by kernel_rfl
theorem by84 : Program.bytesOf Try.prog 84 = 8 := by kernel_rfl
theorem sl84 : slT Try.prog 84 = false := by kernel_rfl
theorem st84 : strT Try.prog 84 = false := by kernel_rfl
theorem un84 : Program.underlying Try.prog 84 = some (.pointer 89) := by kernel_rfl
theorem ok88 : okT Try.prog 88 = true := by kernel_rfl
theorem sz88 : szT Try.prog 88 = 1 := by kernel_rfl
theorem ag88 : aggT Try.prog 88 = true := by kernel_rfl
theorem zt88 : zeroT Try.prog 88 = some (.agg #[.slice none 0 0]) := by kernel_rfl
theorem by88 : Program.bytesOf Try.prog 88 = 24 := by kernel_rfl
theorem sl88 : slT Try.prog 88 = false := by kernel_rfl
theorem st88 : strT Try.prog 88 = false := by kernel_rfl
theorem of88_0 : offT Try.prog 88 0 = some 0 := by kernel_rfl
theorem pl88 : placeT Try.prog 88 = some (fun i => (#[(0, 1)] : Array (Nat × Nat))[i]?) := by kernel_rfl
theorem ok89 : okT Try.prog 89 = true := by kernel_rfl
theorem sz89 : szT Try.prog 89 = 1 := by kernel_rfl
theorem ag89 : aggT Try.prog 89 = true := by kernel_rfl
theorem zt89 : zeroT Try.prog 89 = some (.agg #[.slice none 0 0]) := by kernel_rfl
theorem by89 : Program.bytesOf Try.prog 89 = 24 := by kernel_rfl
theorem sl89 : slT Try.prog 89 = false := by kernel_rfl
theorem st89 : strT Try.prog 89 = false := by kernel_rfl
theorem of89_0 : offT Try.prog 89 0 = some 0 := by kernel_rfl
theorem pl89 : placeT Try.prog 89 = some (fun i => (#[(0, 1)] : Array (Nat × Nat))[i]?) := by kernel_rfl
theorem ok106 : okT Try.prog 106 = true := by kernel_rfl
theorem sz106 : szT Try.prog 106 = 1 := by kernel_rfl
theorem ag106 : aggT Try.prog 106 = false := by kernel_rfl
theorem zt106 : zeroT Try.prog 106 = some (.map none) := by kernel_rfl
theorem by106 : Program.bytesOf Try.prog 106 = 8 := by kernel_rfl
theorem sl106 : slT Try.prog 106 = false := by kernel_rfl
theorem st106 : strT Try.prog 106 = false := by kernel_rfl
theorem ok108 : okT Try.prog 108 = true := by kernel_rfl
theorem sz108 : szT Try.prog 108 = 1 := by kernel_rfl
theorem ag108 : aggT Try.prog 108 = false := by kernel_rfl
theorem zt108 : zeroT Try.prog 108 = some (.slice none 0 0) := by kernel_rfl
theorem by108 : Program.bytesOf Try.prog 108 = 24 := by kernel_rfl
theorem sl108 : slT Try.prog 108 = true := by kernel_rfl
theorem el108 : Program.elem Try.prog 108 = 2 := by kernel_rfl
theorem st108 : strT Try.prog 108 = false := by kernel_rfl
theorem ok113 : okT Try.prog 113 = true := by kernel_rfl
theorem sz113 : szT Try.prog 113 = 3 := by kernel_rfl
theorem ag113 : aggT Try.prog 113 = true := by kernel_rfl
theorem zt113 : zeroT Try.prog 113 = some (.agg #[.bool false, .slice none 0 0, .int Go.IntKind.i64 (0)]) := by kernel_rfl
theorem by113 : Program.bytesOf Try.prog 113 = 40 := by kernel_rfl
theorem sl113 : slT Try.prog 113 = false := by kernel_rfl
theorem st113 : strT Try.prog 113 = false := by kernel_rfl
theorem of113_0 : offT Try.prog 113 0 = some 0 := by kernel_rfl
theorem of113_1 : offT Try.prog 113 1 = some 1 := by kernel_rfl
theorem of113_2 : offT Try.prog 113 2 = some 2 := by kernel_rfl
theorem pl113 : placeT Try.prog 113 = some (fun i => (#[(0, 1), (1, 1), (2, 1)] : Array (Nat × Nat))[i]?) := by kernel_rfl
theorem ok114 : okT Try.prog 114 = true := by kernel_rfl
theorem sz114 : szT Try.prog 114 = 3 := by kernel_rfl
theorem ag114 : aggT Try.prog 114 = true := by kernel_rfl
theorem zt114 : zeroT Try.prog 114 = some (.agg #[.bool false, .slice none 0 0, .int Go.IntKind.i64 (0)]) := by kernel_rfl
theorem by114 : Program.bytesOf Try.prog 114 = 40 := by kernel_rfl
theorem sl114 : slT Try.prog 114 = false := by kernel_rfl
theorem st114 : strT Try.prog 114 = false := by kernel_rfl
theorem of114_0 : offT Try.prog 114 0 = some 0 := by kernel_rfl
theorem of114_1 : offT Try.prog 114 1 = some 1 := by kernel_rfl
theorem of114_2 : offT Try.prog 114 2 = some 2 := by kernel_rfl
theorem pl114 : placeT Try.prog 114 = some (fun i => (#[(0, 1), (1, 1), (2, 1)] : Array (Nat × Nat))[i]?) := by kernel_rfl
theorem ok122 : okT Try.prog 122 = true := by kernel_rfl
theorem sz122 : szT Try.prog 122 = 2 := by kernel_rfl
theorem ag122 : aggT Try.prog 122 = true := by kernel_rfl
theorem zt122 : zeroT Try.prog 122 = some (.agg #[.slice none 0 0, .bool false]) := by kernel_rfl
theorem by122 : Program.bytesOf Try.prog 122 = 32 := by kernel_rfl
theorem sl122 : slT Try.prog 122 = false := by kernel_rfl
theorem st122 : strT Try.prog 122 = false := by kernel_rfl
theorem of122_0 : offT Try.prog 122 0 = some 0 := by kernel_rfl
theorem of122_1 : offT Try.prog 122 1 = some 1 := by kernel_rfl
theorem pl122 : placeT Try.prog 122 = some (fun i => (#[(0, 1), (1, 1)] : Array (Nat × Nat))[i]?) := by kernel_rfl
theorem ok123 : okT Try.prog 123 = true := by kernel_rfl
theorem sz123 : szT Try.prog 123 = 2 := by kernel_rfl
theorem ag123 : aggT Try.prog 123 = true := by kernel_rfl
theorem zt123 : zeroT Try.prog 123 = some (.agg #[.slice none 0 0, .bool false]) := by kernel_rfl
theorem by123 : Program.bytesOf Try.prog 123 = 32 := by kernel_rfl
theorem sl123 : slT Try.prog 123 = false := by kernel_rfl
theorem st123 : strT Try.prog 123 = false := by kernel_rfl
theorem of123_0 : offT Try.prog 123 0 = some 0 := by kernel_rfl
theorem of123_1 : offT Try.prog 123 1 = some 1 := by kernel_rfl
theorem pl123 : placeT Try.prog 123 = some (fun i => (#[(0, 1), (1, 1)] : Array (Nat × Nat))[i]?) := by kernel_rfl
theorem ok128 : okT Try.prog 128 = true := by kernel_rfl
theorem sz128 : szT Try.prog 128 = 3 := by kernel_rfl
theorem ag128 : aggT Try.prog 128 = true := by kernel_rfl
theorem zt128 : zeroT Try.prog 128 = some (.agg #[.bool false, .slice none 0 0, .int Go.IntKind.i64 (0)]) := by kernel_rfl
theorem by128 : Program.bytesOf Try.prog 128 = 40 := by kernel_rfl
theorem sl128 : slT Try.prog 128 = false := by kernel_rfl
theorem st128 : strT Try.prog 128 = false := by kernel_rfl
theorem of128_0 : offT Try.prog 128 0 = some 0 := by kernel_rfl
theorem of128_1 : offT Try.prog 128 1 = some 1 := by kernel_rfl
theorem of128_2 : offT Try.prog 128 2 = some 2 := by kernel_rfl
theorem pl128 : placeT Try.prog 128 = some (fun i => (#[(0, 1), (1, 1), (2, 1)] : Array (Nat × Nat))[i]?) := by kernel_rfl
theorem ok129 : okT Try.prog 129 = true := by kernel_rfl
theorem sz129 : szT Try.prog 129 = 3 := by kernel_rfl
theorem ag129 : aggT Try.prog 129 = true := by kernel_rfl
theorem zt129 : zeroT Try.prog 129 = some (.agg #[.bool false, .slice none 0 0, .int Go.IntKind.i64 (0)]) := by kernel_rfl
theorem by129 : Program.bytesOf Try.prog 129 = 40 := by kernel_rfl
theorem sl129 : slT Try.prog 129 = false := by kernel_rfl
theorem st129 : strT Try.prog 129 = false := by kernel_rfl
theorem of129_0 : offT Try.prog 129 0 = some 0 := by kernel_rfl
theorem of129_1 : offT Try.prog 129 1 = some 1 := by kernel_rfl
theorem of129_2 : offT Try.prog 129 2 = some 2 := by kernel_rfl
theorem pl129 : placeT Try.prog 129 = some (fun i => (#[(0, 1), (1, 1), (2, 1)] : Array (Nat × Nat))[i]?) := by kernel_rfl
theorem ok130 : okT Try.prog 130 = true := by kernel_rfl
theorem sz130 : szT Try.prog 130 = 1 := by kernel_rfl
theorem ag130 : aggT Try.prog 130 = false := by kernel_rfl
theorem zt130 : zeroT Try.prog 130 = some (.int Go.IntKind.u64 (0)) := by kernel_rfl
theorem by130 : Program.bytesOf Try.prog 130 = 8 := by kernel_rfl
theorem sl130 : slT Try.prog 130 = false := by kernel_rfl
theorem st130 : strT Try.prog 130 = false := by kernel_rfl
theorem ok132 : okT Try.prog 132 = true := by kernel_rfl
theorem sz132 : szT Try.prog 132 = 1 := by kernel_rfl
theorem ag132 : aggT Try.prog 132 = false := by kernel_rfl
theorem zt132 : zeroT Try.prog 132 = some (.slice none 0 0) := by kernel_rfl
theorem by132 : Program.bytesOf Try.prog 132 = 24 := by kernel_rfl
theorem sl132 : slT Try.prog 132 = true := by kernel_rfl
theorem el132 : Program.elem Try.prog 132 = 22 := by kernel_rfl
theorem st132 : strT Try.prog 132 = false := by kernel_rfl
theorem ok140 : okT Try.prog 140 = true := by kernel_rfl
theorem sz140 : szT Try.prog 140 = 3 := by kernel_rfl
theorem ag140 : aggT Try.prog 140 = true := by kernel_rfl
theorem zt140 : zeroT Try.prog 140 = some (.agg #[.int Go.IntKind.i64 (0), .int Go.IntKind.i64 (0), .string ⟨#[]⟩]) := by kernel_rfl
theorem by140 : Program.bytesOf Try.prog 140 = 32 := by kernel_rfl
theorem sl140 : slT Try.prog 140 = false := by kernel_rfl
theorem st140 : strT Try.prog 140 = false := by kernel_rfl
theorem of140_0 : offT Try.prog 140 0 = some 0 := by kernel_rfl
theorem of140_1 : offT Try.prog 140 1 = some 1 := by kernel_rfl
theorem of140_2 : offT Try.prog 140 2 = some 2 := by kernel_rfl
theorem pl140 : placeT Try.prog 140 = some (fun i => (#[(0, 1), (1, 1), (2, 1)] : Array (Nat × Nat))[i]?) := by kernel_rfl
theorem ok141 : okT Try.prog 141 = true := by kernel_rfl
theorem sz141 : szT Try.prog 141 = 3 := by kernel_rfl
theorem ag141 : aggT Try.prog 141 = true := by kernel_rfl
theorem zt141 : zeroT Try.prog 141 = some (.agg #[.int Go.IntKind.i64 (0), .int Go.IntKind.i64 (0), .string ⟨#[]⟩]) := by kernel_rfl
theorem by141 : Program.bytesOf Try.prog 141 = 32 := by kernel_rfl
theorem sl141 : slT Try.prog 141 = false := by kernel_rfl
theorem st141 : strT Try.prog 141 = false := by kernel_rfl
theorem of141_0 : offT Try.prog 141 0 = some 0 := by kernel_rfl
theorem of141_1 : offT Try.prog 141 1 = some 1 := by kernel_rfl
theorem of141_2 : offT Try.prog 141 2 = some 2 := by kernel_rfl
theorem pl141 : placeT Try.prog 141 = some (fun i => (#[(0, 1), (1, 1), (2, 1)] : Array (Nat × Nat))[i]?) := by kernel_rfl
theorem ok142 : okT Try.prog 142 = true := by kernel_rfl
theorem sz142 : szT Try.prog 142 = 4 := by kernel_rfl
theorem ag142 : aggT Try.prog 142 = true := by kernel_rfl
theorem zt142 : zeroT Try.prog 142 = some (.agg #[.string ⟨#[]⟩, .int Go.IntKind.i64 (0), .int Go.IntKind.i64 (0), .string ⟨#[]⟩]) := by kernel_rfl
theorem by142 : Program.bytesOf Try.prog 142 = 48 := by kernel_rfl
theorem sl142 : slT Try.prog 142 = false := by kernel_rfl
theorem st142 : strT Try.prog 142 = false := by kernel_rfl
theorem of142_0 : offT Try.prog 142 0 = some 0 := by kernel_rfl
theorem of142_1 : offT Try.prog 142 1 = some 1 := by kernel_rfl
theorem pl142 : placeT Try.prog 142 = some (fun i => (#[(0, 1), (1, 3)] : Array (Nat × Nat))[i]?) := by kernel_rfl
theorem ok143 : okT Try.prog 143 = true := by kernel_rfl
theorem sz143 : szT Try.prog 143 = 4 := by kernel_rfl
theorem ag143 : aggT Try.prog 143 = true := by kernel_rfl
theorem zt143 : zeroT Try.prog 143 = some (.agg #[.string ⟨#[]⟩, .int Go.IntKind.i64 (0), .int Go.IntKind.i64 (0), .string ⟨#[]⟩]) := by kernel_rfl
theorem by143 : Program.bytesOf Try.prog 143 = 48 := by kernel_rfl
theorem sl143 : slT Try.prog 143 = false := by kernel_rfl
theorem st143 : strT Try.prog 143 = false := by kernel_rfl
theorem of143_0 : offT Try.prog 143 0 = some 0 := by kernel_rfl
theorem of143_1 : offT Try.prog 143 1 = some 1 := by kernel_rfl
theorem pl143 : placeT Try.prog 143 = some (fun i => (#[(0, 1), (1, 3)] : Array (Nat × Nat))[i]?) := by kernel_rfl
theorem ok144 : okT Try.prog 144 = true := by kernel_rfl
theorem sz144 : szT Try.prog 144 = 1 := by kernel_rfl
theorem ag144 : aggT Try.prog 144 = false := by kernel_rfl
theorem zt144 : zeroT Try.prog 144 = some (.slice none 0 0) := by kernel_rfl
theorem by144 : Program.bytesOf Try.prog 144 = 24 := by kernel_rfl
theorem sl144 : slT Try.prog 144 = true := by kernel_rfl
theorem el144 : Program.elem Try.prog 144 = 3 := by kernel_rfl
theorem st144 : strT Try.prog 144 = false := by kernel_rfl
theorem ok168 : okT Try.prog 168 = true := by kernel_rfl
theorem sz168 : szT Try.prog 168 = 1 := by kernel_rfl
theorem ag168 : aggT Try.prog 168 = false := by kernel_rfl
theorem zt168 : zeroT Try.prog 168 = some (.pointer none) := by kernel_rfl
theorem by168 : Program.bytesOf Try.prog 168 = 8 := by kernel_rfl
theorem sl168 : slT Try.prog 168 = false := by kernel_rfl
theorem st168 : strT Try.prog 168 = false := by kernel_rfl
theorem un168 : Program.underlying Try.prog 168 = some (.pointer 170) := by kernel_rfl
theorem ok169 : okT Try.prog 169 = true := by kernel_rfl
theorem sz169 : szT Try.prog 169 = 2 := by kernel_rfl
theorem ag169 : aggT Try.prog 169 = true := by kernel_rfl
theorem zt169 : zeroT Try.prog 169 = some (.agg #[.pointer none, .int Go.IntKind.i64 (0)]) := by kernel_rfl
theorem by169 : Program.bytesOf Try.prog 169 = 16 := by kernel_rfl
theorem sl169 : slT Try.prog 169 = false := by kernel_rfl
theorem st169 : strT Try.prog 169 = false := by kernel_rfl
theorem of169_0 : offT Try.prog 169 0 = some 0 := by kernel_rfl
theorem of169_1 : offT Try.prog 169 1 = some 1 := by kernel_rfl
theorem pl169 : placeT Try.prog 169 = some (fun i => (#[(0, 1), (1, 1)] : Array (Nat × Nat))[i]?) := by kernel_rfl
theorem ok170 : okT Try.prog 170 = true := by kernel_rfl
theorem sz170 : szT Try.prog 170 = 2 := by kernel_rfl
theorem ag170 : aggT Try.prog 170 = true := by kernel_rfl
theorem zt170 : zeroT Try.prog 170 = some (.agg #[.pointer none, .int Go.IntKind.i64 (0)]) := by kernel_rfl
theorem by170 : Program.bytesOf Try.prog 170 = 16 := by kernel_rfl
theorem sl170 : slT Try.prog 170 = false := by kernel_rfl
theorem st170 : strT Try.prog 170 = false := by kernel_rfl
theorem of170_0 : offT Try.prog 170 0 = some 0 := by kernel_rfl
theorem of170_1 : offT Try.prog 170 1 = some 1 := by kernel_rfl
theorem pl170 : placeT Try.prog 170 = some (fun i => (#[(0, 1), (1, 1)] : Array (Nat × Nat))[i]?) := by kernel_rfl
theorem ok185 : okT Try.prog 185 = true := by kernel_rfl
theorem sz185 : szT Try.prog 185 = 4 := by kernel_rfl
theorem ag185 : aggT Try.prog 185 = true := by kernel_rfl
theorem zt185 : zeroT Try.prog 185 = some (.agg #[.pointer none, .pointer none, .pointer none, .string ⟨#[]⟩]) := by kernel_rfl
theorem by185 : Program.bytesOf Try.prog 185 = 40 := by kernel_rfl
theorem sl185 : slT Try.prog 185 = false := by kernel_rfl
theorem st185 : strT Try.prog 185 = false := by kernel_rfl
theorem of185_0 : offT Try.prog 185 0 = some 0 := by kernel_rfl
theorem of185_1 : offT Try.prog 185 1 = some 1 := by kernel_rfl
theorem of185_2 : offT Try.prog 185 2 = some 2 := by kernel_rfl
theorem of185_3 : offT Try.prog 185 3 = some 3 := by kernel_rfl
theorem pl185 : placeT Try.prog 185 = some (fun i => (#[(0, 1), (1, 1), (2, 1), (3, 1)] : Array (Nat × Nat))[i]?) := by kernel_rfl
theorem ok186 : okT Try.prog 186 = true := by kernel_rfl
theorem sz186 : szT Try.prog 186 = 4 := by kernel_rfl
theorem ag186 : aggT Try.prog 186 = true := by kernel_rfl
theorem zt186 : zeroT Try.prog 186 = some (.agg #[.pointer none, .pointer none, .pointer none, .string ⟨#[]⟩]) := by kernel_rfl
theorem by186 : Program.bytesOf Try.prog 186 = 40 := by kernel_rfl
theorem sl186 : slT Try.prog 186 = false := by kernel_rfl
theorem st186 : strT Try.prog 186 = false := by kernel_rfl
theorem of186_0 : offT Try.prog 186 0 = some 0 := by kernel_rfl
theorem of186_1 : offT Try.prog 186 1 = some 1 := by kernel_rfl
theorem of186_2 : offT Try.prog 186 2 = some 2 := by kernel_rfl
theorem of186_3 : offT Try.prog 186 3 = some 3 := by kernel_rfl
theorem pl186 : placeT Try.prog 186 = some (fun i => (#[(0, 1), (1, 1), (2, 1), (3, 1)] : Array (Nat × Nat))[i]?) := by kernel_rfl
theorem ok187 : okT Try.prog 187 = true := by kernel_rfl
theorem sz187 : szT Try.prog 187 = 0 := by kernel_rfl
theorem ag187 : aggT Try.prog 187 = true := by kernel_rfl
theorem zt187 : zeroT Try.prog 187 = some (.agg #[]) := by kernel_rfl
theorem by187 : Program.bytesOf Try.prog 187 = 0 := by kernel_rfl
theorem sl187 : slT Try.prog 187 = false := by kernel_rfl
theorem st187 : strT Try.prog 187 = false := by kernel_rfl
theorem un187 : Program.underlying Try.prog 187 = some (.array 0 16) := by kernel_rfl
theorem pl187 : placeT Try.prog 187 = some (fun i => some (i * 1, 1)) := by kernel_rfl
theorem ok188 : okT Try.prog 188 = true := by kernel_rfl
theorem sz188 : szT Try.prog 188 = 0 := by kernel_rfl
theorem ag188 : aggT Try.prog 188 = true := by kernel_rfl
theorem zt188 : zeroT Try.prog 188 = some (.agg #[]) := by kernel_rfl
theorem by188 : Program.bytesOf Try.prog 188 = 0 := by kernel_rfl
theorem sl188 : slT Try.prog 188 = false := by kernel_rfl
theorem st188 : strT Try.prog 188 = false := by kernel_rfl
theorem of188_0 : offT Try.prog 188 0 = none := by kernel_rfl
theorem pl188 : placeT Try.prog 188 = some (fun i => (#[(0, 0)] : Array (Nat × Nat))[i]?) := by kernel_rfl
theorem ok189 : okT Try.prog 189 = true := by kernel_rfl
theorem sz189 : szT Try.prog 189 = 0 := by kernel_rfl
theorem ag189 : aggT Try.prog 189 = true := by kernel_rfl
theorem zt189 : zeroT Try.prog 189 = some (.agg #[]) := by kernel_rfl
theorem by189 : Program.bytesOf Try.prog 189 = 0 := by kernel_rfl
theorem sl189 : slT Try.prog 189 = false := by kernel_rfl
theorem st189 : strT Try.prog 189 = false := by kernel_rfl
theorem of189_0 : offT Try.prog 189 0 = none := by kernel_rfl
theorem pl189 : placeT Try.prog 189 = some (fun i => (#[(0, 0)] : Array (Nat × Nat))[i]?) := by kernel_rfl
theorem ok190 : okT Try.prog 190 = true := by kernel_rfl
theorem sz190 : szT Try.prog 190 = 1 := by kernel_rfl
theorem ag190 : aggT Try.prog 190 = false := by kernel_rfl
theorem zt190 : zeroT Try.prog 190 = some (.int Go.IntKind.u32 (0)) := by kernel_rfl
theorem by190 : Program.bytesOf Try.prog 190 = 4 := by kernel_rfl
theorem sl190 : slT Try.prog 190 = false := by kernel_rfl
theorem st190 : strT Try.prog 190 = false := by kernel_rfl
theorem ok191 : okT Try.prog 191 = true := by kernel_rfl
theorem sz191 : szT Try.prog 191 = 1 := by kernel_rfl
theorem ag191 : aggT Try.prog 191 = false := by kernel_rfl
theorem zt191 : zeroT Try.prog 191 = some (.int Go.IntKind.u8 (0)) := by kernel_rfl
theorem by191 : Program.bytesOf Try.prog 191 = 1 := by kernel_rfl
theorem sl191 : slT Try.prog 191 = false := by kernel_rfl
theorem st191 : strT Try.prog 191 = false := by kernel_rfl
theorem ok192 : okT Try.prog 192 = true := by kernel_rfl
theorem sz192 : szT Try.prog 192 = 1 := by kernel_rfl
theorem ag192 : aggT Try.prog 192 = false := by kernel_rfl
theorem zt192 : zeroT Try.prog 192 = some (.int Go.IntKind.u8 (0)) := by kernel_rfl
theorem by192 : Program.bytesOf Try.prog 192 = 1 := by kernel_rfl
theorem sl192 : slT Try.prog 192 = false := by kernel_rfl
theorem st192 : strT Try.prog 192 = false := by kernel_rfl
theorem ok194 : okT Try.prog 194 = true := by kernel_rfl
theorem sz194 : szT Try.prog 194 = 1 := by kernel_rfl
theorem ag194 : aggT Try.prog 194 = false := by kernel_rfl
theorem zt194 : zeroT Try.prog 194 = some (.pointer none) := by kernel_rfl
theorem by194 : Program.bytesOf Try.prog 194 = 8 := by kernel_rfl
theorem sl194 : slT Try.prog 194 = false := by kernel_rfl
theorem st194 : strT Try.prog 194 = false := by kernel_rfl
theorem un194 : Program.underlying Try.prog 194 = some (.pointer 5) := by kernel_rfl
theorem ok195 : okT Try.prog 195 = true := by kernel_rfl
theorem sz195 : szT Try.prog 195 = 1 := by kernel_rfl
theorem ag195 : aggT Try.prog 195 = false := by kernel_rfl
theorem zt195 : zeroT Try.prog 195 = some (.int Go.IntKind.i32 (0)) := by kernel_rfl
theorem by195 : Program.bytesOf Try.prog 195 = 4 := by kernel_rfl
theorem sl195 : slT Try.prog 195 = false := by kernel_rfl
theorem st195 : strT Try.prog 195 = false := by kernel_rfl
theorem ok196 : okT Try.prog 196 = true := by kernel_rfl
theorem sz196 : szT Try.prog 196 = 1 := by kernel_rfl
theorem ag196 : aggT Try.prog 196 = false := by kernel_rfl
theorem zt196 : zeroT Try.prog 196 = some (.int Go.IntKind.i32 (0)) := by kernel_rfl
theorem by196 : Program.bytesOf Try.prog 196 = 4 := by kernel_rfl
theorem sl196 : slT Try.prog 196 = false := by kernel_rfl
theorem st196 : strT Try.prog 196 = false := by kernel_rfl
theorem ok197 : okT Try.prog 197 = true := by kernel_rfl
theorem sz197 : szT Try.prog 197 = 11 := by kernel_rfl
theorem ag197 : aggT Try.prog 197 = true := by kernel_rfl
theorem zt197 : zeroT Try.prog 197 = some (.agg #[.int Go.IntKind.u64 (0), .int Go.IntKind.u64 (0), .int Go.IntKind.u32 (0), .int Go.IntKind.u8 (0), .int Go.IntKind.u8 (0), .int Go.IntKind.u8 (0), .int Go.IntKind.u8 (0), .nilFunc, .pointer none, .int Go.IntKind.i32 (0), .int Go.IntKind.i32 (0)]) := by kernel_rfl
theorem by197 : Program.bytesOf Try.prog 197 = 48 := by kernel_rfl
theorem sl197 : slT Try.prog 197 = false := by kernel_rfl
theorem st197 : strT Try.prog 197 = false := by kernel_rfl
theorem of197_0 : offT Try.prog 197 0 = some 0 := by kernel_rfl
theorem of197_1 : offT Try.prog 197 1 = some 1 := by kernel_rfl
theorem of197_2 : offT Try.prog 197 2 = some 2 := by kernel_rfl
theorem of197_3 : offT Try.prog 197 3 = some 3 := by kernel_rfl
theorem of197_4 : offT Try.prog 197 4 = some 4 := by kernel_rfl
theorem of197_5 : offT Try.prog 197 5 = some 5 := by kernel_rfl
theorem of197_6 : offT Try.prog 197 6 = some 6 := by kernel_rfl
theorem of197_7 : offT Try.prog 197 7 = some 7 := by kernel_rfl
theorem of197_8 : offT Try.prog 197 8 = some 8 := by kernel_rfl
theorem of197_9 : offT Try.prog 197 9 = some 9 := by kernel_rfl
theorem of197_10 : offT Try.prog 197 10 = some 10 := by kernel_rfl
theorem pl197 : placeT Try.prog 197 = some (fun i => (#[(0, 1), (1, 1), (2, 1), (3, 1), (4, 1), (5, 1), (6, 1), (7, 1), (8, 1), (9, 1), (10, 1)] : Array (Nat × Nat))[i]?) := by kernel_rfl
theorem ok198 : okT Try.prog 198 = true := by kernel_rfl
theorem sz198 : szT Try.prog 198 = 11 := by kernel_rfl
theorem ag198 : aggT Try.prog 198 = true := by kernel_rfl
theorem zt198 : zeroT Try.prog 198 = some (.agg #[.int Go.IntKind.u64 (0), .int Go.IntKind.u64 (0), .int Go.IntKind.u32 (0), .int Go.IntKind.u8 (0), .int Go.IntKind.u8 (0), .int Go.IntKind.u8 (0), .int Go.IntKind.u8 (0), .nilFunc, .pointer none, .int Go.IntKind.i32 (0), .int Go.IntKind.i32 (0)]) := by kernel_rfl
theorem by198 : Program.bytesOf Try.prog 198 = 48 := by kernel_rfl
theorem sl198 : slT Try.prog 198 = false := by kernel_rfl
theorem st198 : strT Try.prog 198 = false := by kernel_rfl
theorem of198_0 : offT Try.prog 198 0 = some 0 := by kernel_rfl
theorem of198_1 : offT Try.prog 198 1 = some 1 := by kernel_rfl
theorem of198_2 : offT Try.prog 198 2 = some 2 := by kernel_rfl
theorem of198_3 : offT Try.prog 198 3 = some 3 := by kernel_rfl
theorem of198_4 : offT Try.prog 198 4 = some 4 := by kernel_rfl
theorem of198_5 : offT Try.prog 198 5 = some 5 := by kernel_rfl
theorem of198_6 : offT Try.prog 198 6 = some 6 := by kernel_rfl
theorem of198_7 : offT Try.prog 198 7 = some 7 := by kernel_rfl
theorem of198_8 : offT Try.prog 198 8 = some 8 := by kernel_rfl
theorem of198_9 : offT Try.prog 198 9 = some 9 := by kernel_rfl
theorem of198_10 : offT Try.prog 198 10 = some 10 := by kernel_rfl
theorem pl198 : placeT Try.prog 198 = some (fun i => (#[(0, 1), (1, 1), (2, 1), (3, 1), (4, 1), (5, 1), (6, 1), (7, 1), (8, 1), (9, 1), (10, 1)] : Array (Nat × Nat))[i]?) := by kernel_rfl
theorem cv5_54 : cnvT Try.prog 5 54 = .toInt .u64 := by kernel_rfl
theorem cv5_3 : cnvT Try.prog 5 3 = .toInt .i64 := by kernel_rfl
theorem cv2_54 : cnvT Try.prog 2 54 = .toInt .u64 := by kernel_rfl
theorem cv3_54 : cnvT Try.prog 3 54 = .toInt .u64 := by kernel_rfl
theorem cv48_9 : cnvT Try.prog 48 9 = .toStr := by kernel_rfl
theorem cv9_48 : cnvT Try.prog 9 48 = .toBytes 5 := by kernel_rfl
theorem cv3_130 : cnvT Try.prog 3 130 = .toInt .u64 := by kernel_rfl
theorem cv130_3 : cnvT Try.prog 130 3 = .toInt .i64 := by kernel_rfl
theorem cv54_5 : cnvT Try.prog 54 5 = .toInt .u8 := by kernel_rfl
theorem cv54_3 : cnvT Try.prog 54 3 = .toInt .i64 := by kernel_rfl
theorem cv54_2 : cnvT Try.prog 54 2 = .toInt .i64 := by kernel_rfl
end Go.Abs.M
namespace Go.Abs.M
open Go Go.Abs Go.Proofs

theorem eqA33 (d : Nat) (w : World) (x0 y0 x1 y1 : Int) :
    (Op.equalIn (d + 2) 33 (.agg #[.int .i64 x0, .int .i64 x1]) (.agg #[.int .i64 y0, .int .i64 y1])).run Try.prog w = .ok (x0 == y0 && (x1 == y1)) w := by
  refine eqF_of Try.underlying33 (by kernel_rfl) ?_
  refine eqF_more (by rfl) (by go_simp; rfl) (by go_simp; rfl) (by go_simp) ?_
  exact eqF_one (by rfl) (by go_simp; rfl) (by go_simp; rfl) (by go_simp)
theorem eqA141 (d : Nat) (w : World) (x0 y0 : Int) (x1 y1 : Int) (x2 y2 : ByteArray) :
    (Op.equalIn (d + 2) 141 (.agg #[.int .i64 x0, .int .i64 x1, .string x2]) (.agg #[.int .i64 y0, .int .i64 y1, .string y2])).run Try.prog w = .ok (x0 == y0 && (x1 == y1 && (x2.toList == y2.toList))) w := by
  refine eqF_of Try.underlying141 (by kernel_rfl) ?_
  refine eqF_more (by rfl) (by go_simp; rfl) (by go_simp; rfl) (by go_simp) ?_
  refine eqF_more (by rfl) (by go_simp; rfl) (by go_simp; rfl) (by go_simp) ?_
  exact eqF_one (by rfl) (by go_simp; rfl) (by go_simp; rfl) (by go_simp)
theorem eqA143 (d : Nat) (w : World) (x0 y0 : ByteArray) (x1 y1 : Int) (x2 y2 : Int) (x3 y3 : ByteArray) :
    (Op.equalIn (d + 3) 143 (.agg #[.string x0, .int .i64 x1, .int .i64 x2, .string x3]) (.agg #[.string y0, .int .i64 y1, .int .i64 y2, .string y3])).run Try.prog w = .ok (x0.toList == y0.toList && ((x1 == y1 && (x2 == y2 && (x3.toList == y3.toList))))) w := by
  refine eqF_of Try.underlying143 (by kernel_rfl) ?_
  refine eqF_more (by rfl) (by go_simp; rfl) (by go_simp; rfl) (by go_simp) ?_
  exact eqF_one (by rfl) (by go_simp) (by go_simp) (eqA141 (d + 0) w _ _ _ _ _ _)

theorem fitI {ks : List SK} {xs : List Value} (h : fitsAll (.int .i64 :: ks) xs = true) : ∃ (a : Int) (ys : List Value), xs = .int .i64 a :: ys ∧ fitsAll ks ys = true := by
  match xs, h with
  | .int k a :: ys, h =>
    simp only [fitsAll, SK.fits, Bool.and_eq_true, beq_iff_eq] at h
    obtain ⟨h1, h2⟩ := h
    exact ⟨a, ys, by rw [← h1], h2⟩
theorem fitS {ks : List SK} {xs : List Value} (h : fitsAll (.str :: ks) xs = true) : ∃ (a : ByteArray) (ys : List Value), xs = .string a :: ys ∧ fitsAll ks ys = true := by
  match xs, h with
  | .string a :: ys, h =>
    simp only [fitsAll, SK.fits, Bool.and_eq_true, true_and] at h
    exact ⟨a, ys, rfl, h⟩
theorem fit0 {xs : List Value} (h : fitsAll [] xs = true) : xs = [] := by
  match xs, h with
  | [], _ => rfl

theorem eqt33 : EqT Try.prog 33 [.int .i64, .int .i64] := by
  refine ⟨fun op x y xs ys w => run_guard_agg (by kernel_rfl) xs ys w, fun xs ys hx hy w => ?_⟩
  obtain ⟨a0, xs1, rfl, p1⟩ := fitI hx
  obtain ⟨a1, xs2, rfl, p2⟩ := fitI p1
  obtain ⟨b0, ys3, rfl, q3⟩ := fitI hy
  obtain ⟨b1, ys4, rfl, q4⟩ := fitI q3
  rw [fit0 p2, fit0 q4]
  have := eqA33 9998 w a0 b0 a1 b1
  simpa [Op.equal, Op.maxDepth, cellsEq, cellEq] using this
theorem eqt143 : EqT Try.prog 143 [.str, .int .i64, .int .i64, .str] := by
  refine ⟨fun op x y xs ys w => run_guard_agg (by kernel_rfl) xs ys w, fun xs ys hx hy w => ?_⟩
  obtain ⟨a0, xs1, rfl, p1⟩ := fitS hx
  obtain ⟨a1, xs2, rfl, p2⟩ := fitI p1
  obtain ⟨a2, xs3, rfl, p3⟩ := fitI p2
  obtain ⟨a3, xs4, rfl, p4⟩ := fitS p3
  obtain ⟨b0, ys5, rfl, q5⟩ := fitS hy
  obtain ⟨b1, ys6, rfl, q6⟩ := fitI q5
  obtain ⟨b2, ys7, rfl, q7⟩ := fitI q6
  obtain ⟨b3, ys8, rfl, q8⟩ := fitS q7
  rw [fit0 p4, fit0 q8]
  have := eqA143 9997 w a0 b0 a1 b1 a2 b2 a3 b3
  simpa [Op.equal, Op.maxDepth, cellsEq, cellEq] using this
theorem key33 : KeyT Try.prog 33 (fitsK [.int .i64, .int .i64]) := by
  refine KeyT.struct Try.underlying33 eqt33 (fun em xs w hx => ?_)
  obtain ⟨a0, xs1, rfl, p1⟩ := fitI hx
  obtain ⟨a1, xs2, rfl, p2⟩ := fitI p1
  rw [fit0 p2]
  unfold Instr.checkKey
  rw [Sem.run_bind, run_underlying Try.underlying33]
  simp only [Result.andThen_ok]
  go_simp
  have h1 : ∀ (t : TypeId) (x : Int), Try.prog.underlying t = some (.int .i64) → (Instr.checkKey em 9999 t (.int .i64 x)).run Try.prog w = .ok () w := fun t x h => MapKept.run_checkKey (w := w) (k := .int .i64 x) h (by simp [MapKept.IsKey]) em 9998
  rw [h1 3 a0 Try.underlying3, Result.andThen_ok, h1 2 a1 Try.underlying2]
def eqTab (t : TypeId) : Option (List SK) := if t = 33 then some [.int .i64, .int .i64] else if t = 143 then some [.str, .int .i64, .int .i64, .str] else none
theorem eqTab_ok : ∀ t ks, eqTab t = some ks → EqT Try.prog t ks := fun t ks h => by
  unfold eqTab at h
  split at h
  · rename_i e; subst e; injection h with h; subst h; exact eqt33
  · split at h
    · rename_i e; subst e; injection h with h; subst h; exact eqt143
    · cases h
theorem eqk33 : eqTab 33 = some [.int .i64, .int .i64] := rfl
theorem eqk143 : eqTab 143 = some [.str, .int .i64, .int .i64, .str] := rfl
end Go.Abs.M
namespace Go.Abs.M
open Go Go.Abs Go.Proofs
set_option maxRecDepth 20000
set_option linter.unusedSimpArgs false

def letter (c : UInt8) : Bool := decide (c.toNat = 95 ∨ (97 ≤ c.toNat ∧ c.toNat ≤ 122) ∨ (65 ≤ c.toNat ∧ c.toNat ≤ 90))
def nameC (i : Nat) (c : UInt8) : Bool := letter c || decide (i ≠ 0 ∧ 48 ≤ c.toNat ∧ c.toNat ≤ 57)
theorem getD_map {α : Type} {f : α → List V} {l : List α} {i : Nat} (h : i < l.length) : (l.map f).getD i [] = f l[i] := by simp [List.getD, h]
def nameL : Nat → List UInt8 → Bool
  | _, [] => true
  | i, c :: l => nameC i c && nameL (i + 1) l
def isName (s : ByteArray) : Bool := nameL 0 s.data.toList && s.size != 0 && s.size ≤ 32

theorem name_spec (str : ByteArray) (hn : str.size < 4611686018427387904) : PCalls Try.prog 77 [.c (.string str)] (fun v => v = .c (.bool (isName str))) := by
  refine PCalls.intro Try.call77 Try.func77 rfl Try.ntmps77 Try.results77 (by simp) ?_
  refine AW.seq_k fun K1 h1 => ?_
  all_goals refine AW.reg0 ?_
  all_goals (refine S.g rfl rfl fun K' k' => ?_; simp only [zz, reduceIte, Nat.reduceEqDiff, Nat.reduceAdd]; refine k' _ _ ?_; clear k' K')
  all_goals refine S.nil ?_
  all_goals simp only [ze, reduceIte, Nat.reduceEqDiff, Nat.reduceLT, Nat.reduceLeDiff, Nat.reduceAdd, reduceCtorEq, Nat.reduceMul]
  all_goals first | refine h1 _ _ ?_
  refine AW.seq_k fun K2 h2 => ?_
  refine AW.seq_k fun K3 h3 => ?_
  all_goals refine AW.reg0 ?_
  all_goals iterate 4 (refine S.g rfl rfl fun K' k' => ?_; simp only [zz, reduceIte, Nat.reduceEqDiff, Nat.reduceLT, Nat.reduceLeDiff, Nat.reduceAdd, reduceCtorEq, Nat.reduceMul, cv9_48, sl48, el48, ok5, sz5, ag5]; refine k' _ _ ?_; clear k' K')
  all_goals refine S.nil ?_
  all_goals simp only [ze, reduceIte, Nat.reduceEqDiff, Nat.reduceLT, Nat.reduceLeDiff, Nat.reduceAdd, reduceCtorEq, Nat.reduceMul]
  all_goals first | refine h3 _ _ ?_ | refine h2 _ _ ?_ | refine h1 _ _ ?_
  refine AW.block (AW.loop (fun m s σ => σ = Hp.empty ∧ ∃ i : Nat, m + i = str.size ∧ s.t 0 = .c (.string str) ∧ s.t 7 = .sl (str.data.toList.map encU8) ∧ s.t 8 = .c (.int .i64 str.size) ∧ s.t 9 = .c (.int .i64 i) ∧ nameL 0 str.data.toList = nameL i (str.data.toList.drop i)) str.size ?_ ?_)
  · refine ⟨rfl, 0, by simp, ?_⟩
    all_goals simp only [zs, reduceIte, Nat.reduceEqDiff, Nat.reduceLT, Nat.reduceLeDiff, Nat.reduceAdd, reduceCtorEq, Nat.reduceMul]
    exact ⟨by simp, by simp⟩
  rintro m s σ ⟨rfl, i, hm, e0, e7, e8, e9, hp⟩
  refine AW.seq_k fun K4 h4 => ?_
  all_goals refine AW.reg0 ?_
  all_goals (refine S.g rfl rfl fun K' k' => ?_; simp only [zz, reduceIte, Nat.reduceEqDiff, Nat.reduceAdd, e8, e9]; refine k' _ _ ?_; clear k' K')
  all_goals refine S.nil ?_
  all_goals simp only [ze, reduceIte, Nat.reduceEqDiff, Nat.reduceLT, Nat.reduceLeDiff, Nat.reduceAdd, reduceCtorEq, Nat.reduceMul, e8, e9]
  all_goals first | refine h4 _ _ ?_ | refine h3 _ _ ?_ | refine h2 _ _ ?_ | refine h1 _ _ ?_
  refine AW.seq_k fun K5 h5 => ?_
  refine AW.cond (b := decide (i < str.size)) (by simp [ev]) (fun hc => AW.skip ?_) (fun hc => AW.exit ?_)
  · all_goals simp only [zs, reduceIte, Nat.reduceEqDiff, Nat.reduceLT, Nat.reduceLeDiff, Nat.reduceAdd, reduceCtorEq, Nat.reduceMul]
    all_goals first | refine h5 _ _ ?_ | refine h4 _ _ ?_ | refine h3 _ _ ?_ | refine h2 _ _ ?_ | refine h1 _ _ ?_
    have hi : i < str.size := by simpa using hc
    have hil : i < str.data.toList.length := by rw [Array.length_toList]; exact hi
    have hi2 : i < str.data.size := hi
    have hg := getD_map (f := encU8) hil
    generalize hcc : str.data.toList[i] = c at hg
    refine AW.seq_k fun K6 h6 => ?_
    refine AW.block ?_
    refine AW.seq_k fun K7 h7 => ?_
    all_goals refine AW.reg0 ?_
    all_goals iterate 5 (refine S.g rfl rfl fun K' k' => ?_; simp only [zz, reduceIte, Nat.reduceEqDiff, Nat.reduceLT, Nat.reduceLeDiff, Nat.reduceAdd, reduceCtorEq, Nat.reduceMul, sl48, el48, ok5, sz5, ag5, e9, e7, hil, hi2, hg, encU8, List.length_singleton]; refine k' _ _ ?_; clear k' K')
    all_goals refine S.nil ?_
    all_goals simp only [ze, reduceIte, Nat.reduceEqDiff, Nat.reduceLT, Nat.reduceLeDiff, Nat.reduceAdd, reduceCtorEq, Nat.reduceMul, e9, e7, hil, hi2, hg, encU8, List.length_singleton]
    all_goals first | refine h7 _ _ ?_ | refine h6 _ _ ?_ | refine h5 _ _ ?_ | refine h4 _ _ ?_ | refine h3 _ _ ?_ | refine h2 _ _ ?_ | refine h1 _ _ ?_
    refine AW.seq_j (fun s' σ' => σ' = Hp.empty ∧ s'.t 0 = s.t 0 ∧ s'.t 7 = s.t 7 ∧ s'.t 8 = s.t 8 ∧ s'.t 9 = s.t 9 ∧ s'.t 3 = .c (.int .i64 i) ∧ s'.t 4 = .c (.int .u8 c.toNat) ∧ s'.t 5 = .c (.bool (letter c))) ?_ ?_
    · clear hp
      all_goals refine AW.reg0 ?_
      all_goals (refine S.g rfl rfl fun K' k' => ?_; simp only [zz, reduceIte, Nat.reduceEqDiff, Nat.reduceAdd]; refine k' _ _ ?_; clear k' K')
      all_goals (refine S.g rfl rfl fun K' k' => ?_; simp only [zz, reduceIte, Nat.reduceEqDiff, Nat.reduceLT, Nat.reduceLeDiff, Nat.reduceAdd, reduceCtorEq, Nat.reduceMul]; refine S.bool fun b a15 => ?_; cases b <;> (try (exfalso; first | exact Bool.noConfusion a15 | (have h := of_decide_eq_true a15; omega) | (have h := of_decide_eq_false a15; omega))) <;> (refine k' _ _ ?_; clear k' K'))
      all_goals (refine S.g rfl rfl fun K' k' => ?_; simp only [zz, reduceIte, Nat.reduceEqDiff, Nat.reduceAdd]; refine k' _ _ ?_; clear k' K')
      all_goals (first | (refine S.y rfl rfl rfl rfl fun K' k' => ?_; simp only [zz, reduceIte, Nat.reduceEqDiff, Nat.reduceAdd]; refine k' _ _ ?_; clear k' K') | ((first | refine S.x rfl rfl rfl rfl fun K' k' => ?_ | refine S.u rfl rfl rfl rfl fun K' k' => ?_); simp only [ze, reduceIte, Nat.reduceEqDiff]; refine k' _ _ ?_; clear k' K'))
      all_goals first | (refine S.y rfl rfl rfl rfl fun K' k' => ?_; simp only [zz, reduceIte, Nat.reduceEqDiff, Nat.reduceLT, Nat.reduceLeDiff, Nat.reduceAdd, reduceCtorEq, Nat.reduceMul]; refine S.bool fun b a18 => ?_; cases b <;> (try (exfalso; first | exact Bool.noConfusion a18 | (have h := of_decide_eq_true a18; omega) | (have h := of_decide_eq_false a18; omega))) <;> (refine k' _ _ ?_; clear k' K')) | ((first | refine S.x rfl rfl rfl rfl fun K' k' => ?_ | refine S.u rfl rfl rfl rfl fun K' k' => ?_); simp only [ze, reduceIte, Nat.reduceEqDiff]; (refine k' _ _ ?_; clear k' K'))
      all_goals iterate 2 (first | (refine S.y rfl rfl rfl rfl fun K' k' => ?_; simp only [zz, reduceIte, Nat.reduceEqDiff, Nat.reduceAdd]; refine k' _ _ ?_; clear k' K') | ((first | refine S.x rfl rfl rfl rfl fun K' k' => ?_ | refine S.u rfl rfl rfl rfl fun K' k' => ?_); simp only [ze, reduceIte, Nat.reduceEqDiff]; refine k' _ _ ?_; clear k' K'))
      all_goals first | (refine S.y rfl rfl rfl rfl fun K' k' => ?_; simp only [zz, reduceIte, Nat.reduceEqDiff, Nat.reduceLT, Nat.reduceLeDiff, Nat.reduceAdd, reduceCtorEq, Nat.reduceMul]; refine S.bool fun b a21 => ?_; cases b <;> (try (exfalso; first | exact Bool.noConfusion a21 | (have h := of_decide_eq_true a21; omega) | (have h := of_decide_eq_false a21; omega))) <;> (refine k' _ _ ?_; clear k' K')) | ((first | refine S.x rfl rfl rfl rfl fun K' k' => ?_ | refine S.u rfl rfl rfl rfl fun K' k' => ?_); simp only [ze, reduceIte, Nat.reduceEqDiff]; (refine k' _ _ ?_; clear k' K'))
      all_goals (first | (refine S.y rfl rfl rfl rfl fun K' k' => ?_; simp only [zz, reduceIte, Nat.reduceEqDiff, Nat.reduceAdd]; refine k' _ _ ?_; clear k' K') | ((first | refine S.x rfl rfl rfl rfl fun K' k' => ?_ | refine S.u rfl rfl rfl rfl fun K' k' => ?_); simp only [ze, reduceIte, Nat.reduceEqDiff]; refine k' _ _ ?_; clear k' K'))
      all_goals iterate 2 (refine S.g rfl rfl fun K' k' => ?_; simp only [zz, reduceIte, Nat.reduceEqDiff, Nat.reduceAdd]; refine k' _ _ ?_; clear k' K')
      all_goals (first | (refine S.y rfl rfl rfl rfl fun K' k' => ?_; simp only [zz, reduceIte, Nat.reduceEqDiff, Nat.reduceAdd]; refine k' _ _ ?_; clear k' K') | ((first | refine S.x rfl rfl rfl rfl fun K' k' => ?_ | refine S.u rfl rfl rfl rfl fun K' k' => ?_); simp only [ze, reduceIte, Nat.reduceEqDiff]; refine k' _ _ ?_; clear k' K'))
      all_goals first | (refine S.y rfl rfl rfl rfl fun K' k' => ?_; simp only [zz, reduceIte, Nat.reduceEqDiff, Nat.reduceLT, Nat.reduceLeDiff, Nat.reduceAdd, reduceCtorEq, Nat.reduceMul]; refine S.bool fun b a26 => ?_; cases b <;> (try (exfalso; first | exact Bool.noConfusion a26 | (have h := of_decide_eq_true a26; omega) | (have h := of_decide_eq_false a26; omega))) <;> (refine k' _ _ ?_; clear k' K')) | ((first | refine S.x rfl rfl rfl rfl fun K' k' => ?_ | refine S.u rfl rfl rfl rfl fun K' k' => ?_); simp only [ze, reduceIte, Nat.reduceEqDiff]; (refine k' _ _ ?_; clear k' K'))
      all_goals iterate 4 (first | (refine S.y rfl rfl rfl rfl fun K' k' => ?_; simp only [zz, reduceIte, Nat.reduceEqDiff, Nat.reduceAdd]; refine k' _ _ ?_; clear k' K') | ((first | refine S.x rfl rfl rfl rfl fun K' k' => ?_ | refine S.u rfl rfl rfl rfl fun K' k' => ?_); simp only [ze, reduceIte, Nat.reduceEqDiff]; refine k' _ _ ?_; clear k' K'))
      all_goals iterate 2 (refine S.g rfl rfl fun K' k' => ?_; simp only [zz, reduceIte, Nat.reduceEqDiff, Nat.reduceAdd]; refine k' _ _ ?_; clear k' K')
      all_goals refine S.nil ?_
      all_goals simp only [ze, reduceIte, Nat.reduceEqDiff, Nat.reduceLT, Nat.reduceLeDiff, Nat.reduceAdd, reduceCtorEq, Nat.reduceMul]
      all_goals (try simp only [beq_eq_false_iff_ne, decide_eq_true_eq, decide_eq_false_iff_not, beq_iff_eq, ne_eq, Bool.not_eq_true', Bool.not_eq_false', bne_iff_ne, bne_eq_false_iff_eq] at *)
      all_goals (try simp only [V.c.injEq, Value.bool.injEq, Value.int.injEq, true_and, letter])
      all_goals first | done | rfl | omega | ((rw [Bool.eq_iff_iff]; simp only [beq_eq_false_iff_ne, decide_eq_true_eq, decide_eq_false_iff_not, beq_iff_eq, ne_eq, Bool.not_eq_true', Bool.not_eq_false', bne_iff_ne, bne_eq_false_iff_eq, Bool.false_or, Bool.true_or, Bool.or_false, Bool.or_true, Bool.false_and, Bool.and_false, Bool.true_and, Bool.and_true, Bool.not_true, Bool.not_false, Bool.or_eq_false_iff, Bool.and_eq_false_iff, Bool.or_eq_true, Bool.and_eq_true, Bool.false_eq_true, Bool.true_eq_false, true_iff, iff_true, false_iff, iff_false]) <;> omega)
    rintro s1 σ1 ⟨rfl, f0, f7, f8, f9, f3, f4, f5⟩
    rw [e0] at f0; rw [e7] at f7; rw [e8] at f8; rw [e9] at f9
    refine AW.seq_j (fun s' σ' => σ' = Hp.empty ∧ s'.t 0 = s1.t 0 ∧ s'.t 7 = s1.t 7 ∧ s'.t 8 = s1.t 8 ∧ s'.t 9 = s1.t 9 ∧ s'.t 45 = .c (.bool (!nameC i c))) ?_ ?_
    · clear hp
      generalize hlc : letter c = lc at *
      cases lc
      all_goals refine AW.reg0 ?_
      all_goals iterate 3 (refine S.g rfl rfl fun K' k' => ?_; simp only [zz, reduceIte, Nat.reduceEqDiff, Nat.reduceAdd, f3, f4, f5]; refine k' _ _ ?_; clear k' K')
      all_goals (first | (refine S.y rfl rfl rfl rfl fun K' k' => ?_; simp only [zz, reduceIte, Nat.reduceEqDiff, Nat.reduceAdd, f3, f4, f5]; refine k' _ _ ?_; clear k' K') | ((first | refine S.x rfl rfl rfl rfl fun K' k' => ?_ | refine S.u rfl rfl rfl rfl fun K' k' => ?_); simp only [ze, reduceIte, Nat.reduceEqDiff]; refine k' _ _ ?_; clear k' K'))
      all_goals first | (refine S.y rfl rfl rfl rfl fun K' k' => ?_; simp only [zz, reduceIte, Nat.reduceEqDiff, Nat.reduceLT, Nat.reduceLeDiff, Nat.reduceAdd, reduceCtorEq, Nat.reduceMul, f3, f4, f5]; refine S.bool fun b a36 => ?_; cases b <;> (try (exfalso; first | exact Bool.noConfusion a36 | (have h := of_decide_eq_true a36; omega) | (have h := of_decide_eq_false a36; omega))) <;> (refine k' _ _ ?_; clear k' K')) | ((first | refine S.x rfl rfl rfl rfl fun K' k' => ?_ | refine S.u rfl rfl rfl rfl fun K' k' => ?_); simp only [ze, reduceIte, Nat.reduceEqDiff]; (refine k' _ _ ?_; clear k' K'))
      all_goals iterate 2 (first | (refine S.y rfl rfl rfl rfl fun K' k' => ?_; simp only [zz, reduceIte, Nat.reduceEqDiff, Nat.reduceAdd, f3, f4, f5]; refine k' _ _ ?_; clear k' K') | ((first | refine S.x rfl rfl rfl rfl fun K' k' => ?_ | refine S.u rfl rfl rfl rfl fun K' k' => ?_); simp only [ze, reduceIte, Nat.reduceEqDiff]; refine k' _ _ ?_; clear k' K'))
      all_goals first | (refine S.y rfl rfl rfl rfl fun K' k' => ?_; simp only [zz, reduceIte, Nat.reduceEqDiff, Nat.reduceLT, Nat.reduceLeDiff, Nat.reduceAdd, reduceCtorEq, Nat.reduceMul, f3, f4, f5]; refine S.bool fun b a39 => ?_; cases b <;> (try (exfalso; first | exact Bool.noConfusion a39 | (have h := of_decide_eq_true a39; omega) | (have h := of_decide_eq_false a39; omega))) <;> (refine k' _ _ ?_; clear k' K')) | ((first | refine S.x rfl rfl rfl rfl fun K' k' => ?_ | refine S.u rfl rfl rfl rfl fun K' k' => ?_); simp only [ze, reduceIte, Nat.reduceEqDiff]; (refine k' _ _ ?_; clear k' K'))
      all_goals iterate 5 (first | (refine S.y rfl rfl rfl rfl fun K' k' => ?_; simp only [zz, reduceIte, Nat.reduceEqDiff, Nat.reduceAdd, f3, f4, f5]; refine k' _ _ ?_; clear k' K') | ((first | refine S.x rfl rfl rfl rfl fun K' k' => ?_ | refine S.u rfl rfl rfl rfl fun K' k' => ?_); simp only [ze, reduceIte, Nat.reduceEqDiff]; refine k' _ _ ?_; clear k' K'))
      all_goals (refine S.g rfl rfl fun K' k' => ?_; simp only [zz, reduceIte, Nat.reduceEqDiff, Nat.reduceAdd, f3, f4, f5]; refine k' _ _ ?_; clear k' K')
      all_goals refine S.nil ?_
      all_goals simp only [ze, reduceIte, Nat.reduceEqDiff, Nat.reduceLT, Nat.reduceLeDiff, Nat.reduceAdd, reduceCtorEq, Nat.reduceMul, f3, f4, f5]
      all_goals (try simp only [beq_eq_false_iff_ne, decide_eq_true_eq, decide_eq_false_iff_not, beq_iff_eq, ne_eq, Bool.not_eq_true', Bool.not_eq_false', bne_iff_ne, bne_eq_false_iff_eq] at *)
      all_goals (try simp only [V.c.injEq, Value.bool.injEq, Value.int.injEq, true_and, nameC, hlc])
      all_goals first | done | rfl | omega | ((rw [Bool.eq_iff_iff]; simp only [beq_eq_false_iff_ne, decide_eq_true_eq, decide_eq_false_iff_not, beq_iff_eq, ne_eq, Bool.not_eq_true', Bool.not_eq_false', bne_iff_ne, bne_eq_false_iff_eq, Bool.false_or, Bool.true_or, Bool.or_false, Bool.or_true, Bool.false_and, Bool.and_false, Bool.true_and, Bool.and_true, Bool.not_true, Bool.not_false, Bool.or_eq_false_iff, Bool.and_eq_false_iff, Bool.or_eq_true, Bool.and_eq_true, Bool.false_eq_true, Bool.true_eq_false, true_iff, iff_true, false_iff, iff_false]) <;> omega)
    rintro s2 σ2 ⟨rfl, g0, g7, g8, g9, g45⟩
    rw [f0] at g0; rw [f7] at g7; rw [f8] at g8; rw [f9] at g9
    have hd : str.data.toList.drop i = c :: str.data.toList.drop (i + 1) := by rw [← hcc]; exact List.drop_eq_getElem_cons hil
    rw [hd] at hp
    refine AW.cond (b := !nameC i c) g45 (fun ht => ?_) (fun hf => AW.skip ?_)
    · refine AW.seq_k fun K8 h8 => ?_
      all_goals refine AW.reg0 ?_
      all_goals (refine S.g rfl rfl fun K' k' => ?_; simp only [zz, reduceIte, Nat.reduceEqDiff, Nat.reduceAdd]; refine k' _ _ ?_; clear k' K')
      all_goals refine S.nil ?_
      all_goals simp only [ze, reduceIte, Nat.reduceEqDiff, Nat.reduceLT, Nat.reduceLeDiff, Nat.reduceAdd, reduceCtorEq, Nat.reduceMul]
      all_goals first | refine h8 _ _ ?_ | refine h7 _ _ ?_ | refine h6 _ _ ?_ | refine h5 _ _ ?_ | refine h4 _ _ ?_ | refine h3 _ _ ?_ | refine h2 _ _ ?_ | refine h1 _ _ ?_
      refine AW.ret ?_
      all_goals simp only [zs, reduceIte, Nat.reduceEqDiff, Nat.reduceLT, Nat.reduceLeDiff, Nat.reduceAdd, reduceCtorEq, Nat.reduceMul]
      have hx : nameC i c = false := by simpa using ht
      simp [isName, hp, nameL, hx]
    · all_goals simp only [zs, reduceIte, Nat.reduceEqDiff, Nat.reduceLT, Nat.reduceLeDiff, Nat.reduceAdd, reduceCtorEq, Nat.reduceMul]
      all_goals first | refine h8 _ _ ?_ | refine h7 _ _ ?_ | refine h6 _ _ ?_ | refine h5 _ _ ?_ | refine h4 _ _ ?_ | refine h3 _ _ ?_ | refine h2 _ _ ?_ | refine h1 _ _ ?_
      have hw : IntKind.i64.wrap ((i : Int) + 1) = ((i + 1 : Nat) : Int) := by rw [wrap_small _ (by omega) (by omega)]; rfl
      all_goals refine AW.reg0 ?_
      all_goals iterate 2 (refine S.g rfl rfl fun K' k' => ?_; simp only [zz, reduceIte, Nat.reduceEqDiff, Nat.reduceAdd, g9, hw]; refine k' _ _ ?_; clear k' K')
      all_goals refine S.nil ?_
      all_goals simp only [ze, reduceIte, Nat.reduceEqDiff, Nat.reduceLT, Nat.reduceLeDiff, Nat.reduceAdd, reduceCtorEq, Nat.reduceMul, g9, hw]
      have hx : nameC i c = true := by simpa using hf
      refine ⟨m - 1, by omega, i + 1, by omega, g0, g7, g8, ?_⟩
      rw [hp, nameL, hx, Bool.true_and]; exact ⟨rfl, rfl⟩
  · all_goals simp only [zs, reduceIte, Nat.reduceEqDiff, Nat.reduceLT, Nat.reduceLeDiff, Nat.reduceAdd, reduceCtorEq, Nat.reduceMul]
    all_goals first | refine h8 _ _ ?_ | refine h7 _ _ ?_ | refine h6 _ _ ?_ | refine h5 _ _ ?_ | refine h4 _ _ ?_ | refine h3 _ _ ?_ | refine h2 _ _ ?_ | refine h1 _ _ ?_
    have hi : i = str.size := by have : ¬ i < str.size := by simpa using hc
                                 omega
    have hnil : str.data.toList.drop i = [] := List.drop_of_length_le (by rw [hi, Array.length_toList]; exact Nat.le_refl _)
    rw [hnil] at hp
    refine AW.seq_k fun K9 h9 => ?_
    all_goals refine AW.reg0 ?_
    all_goals (refine S.g rfl rfl fun K' k' => ?_; simp only [zz, reduceIte, Nat.reduceEqDiff, Nat.reduceAdd, e0]; refine k' _ _ ?_; clear k' K')
    all_goals (refine S.g rfl rfl fun K' k' => ?_; simp only [zz, reduceIte, Nat.reduceEqDiff, Nat.reduceLT, Nat.reduceLeDiff, Nat.reduceAdd, reduceCtorEq, Nat.reduceMul, e0]; refine S.bool fun b a48 => ?_; cases b <;> (try (exfalso; first | exact Bool.noConfusion a48 | (have h := of_decide_eq_true a48; omega) | (have h := of_decide_eq_false a48; omega))) <;> (refine k' _ _ ?_; clear k' K'))
    all_goals (refine S.g rfl rfl fun K' k' => ?_; simp only [zz, reduceIte, Nat.reduceEqDiff, Nat.reduceAdd, e0]; refine k' _ _ ?_; clear k' K')
    all_goals iterate 3 (first | (refine S.y rfl rfl rfl rfl fun K' k' => ?_; simp only [zz, reduceIte, Nat.reduceEqDiff, Nat.reduceLT, Nat.reduceLeDiff, Nat.reduceAdd, reduceCtorEq, Nat.reduceMul, st9, e0]; refine k' _ _ ?_; clear k' K') | ((first | refine S.x rfl rfl rfl rfl fun K' k' => ?_ | refine S.u rfl rfl rfl rfl fun K' k' => ?_); simp only [ze, reduceIte, Nat.reduceEqDiff]; refine k' _ _ ?_; clear k' K'))
    all_goals iterate 2 (refine S.g rfl rfl fun K' k' => ?_; simp only [zz, reduceIte, Nat.reduceEqDiff, Nat.reduceAdd, e0]; refine k' _ _ ?_; clear k' K')
    all_goals refine S.nil ?_
    all_goals simp only [ze, reduceIte, Nat.reduceEqDiff, Nat.reduceLT, Nat.reduceLeDiff, Nat.reduceAdd, reduceCtorEq, Nat.reduceMul, e0]
    all_goals first | refine h9 _ _ ?_ | refine h8 _ _ ?_ | refine h7 _ _ ?_ | refine h6 _ _ ?_ | refine h5 _ _ ?_ | refine h4 _ _ ?_ | refine h3 _ _ ?_ | refine h2 _ _ ?_ | refine h1 _ _ ?_
    all_goals refine AW.ret ?_
    all_goals simp only [zs, reduceIte, Nat.reduceEqDiff, Nat.reduceLT, Nat.reduceLeDiff, Nat.reduceAdd, reduceCtorEq, Nat.reduceMul]
    · have h1 : str.size = 0 := by simpa using a48
      simp [isName, h1]
    · have h1 : str.size ≠ 0 := by simpa using a48
      simp only [V.c.injEq, Value.bool.injEq, isName, hp, nameL]
      have h2 : (str.size != 0) = true := by simpa using h1
      rw [h2, Bool.true_and, Bool.true_and, decide_eq_decide]
      omega
end Go.Abs.M
namespace Go.Abs.M
open Go Go.Abs Go.Proofs
set_option maxRecDepth 20000
set_option linter.unusedSimpArgs false

theorem mixedO : Try.prog.follows .mixedOrders = true := by kernel_rfl

abbrev big : Nat := 4611686018427387904
structure Val where
  kind : Int
  n : Int
  s : ByteArray
structure Attr where
  name : ByteArray
  v : Val
def encVal (v : Val) : List V := [.c (.int .i64 v.kind), .c (.int .i64 v.n), .c (.string v.s)]
def encAttr (a : Attr) : List V := [.c (.string a.name), .c (.int .i64 a.v.kind), .c (.int .i64 a.v.n), .c (.string a.v.s)]
def valOk (v : Val) : Bool := decide (v.kind = 1 ∧ v.s.size = 0 ∨ v.kind = 2 ∧ v.n = 0 ∧ v.s.size ≤ 64)
def valErr (v : Val) : Int := if valOk v then 0 else 30

theorem check_val (v : Val) : PCalls Try.prog 132 [.agg (encVal v)] (fun r => r = .c (.int .i64 (valErr v))) := by
  refine PCalls.intro Try.call132 Try.func132 rfl Try.ntmps132 Try.results132 (by simp) ?_
  refine AW.seq_k fun K1 h1 => ?_
  all_goals refine AW.reg0 ?_
  all_goals iterate 2 (refine S.g rfl rfl fun K' k' => ?_; simp only [zz, reduceIte, Nat.reduceEqDiff, Nat.reduceLT, Nat.reduceLeDiff, Nat.reduceAdd, reduceCtorEq, Nat.reduceMul, ok141, sz141, ag141, encVal]; refine k' _ _ ?_; clear k' K')
  all_goals refine S.nil ?_
  all_goals simp only [ze, reduceIte, Nat.reduceEqDiff, Nat.reduceLT, Nat.reduceLeDiff, Nat.reduceAdd, reduceCtorEq, Nat.reduceMul, encVal]
  all_goals first | refine h1 _ _ ?_
  refine AW.seq_k fun K2 h2 => ?_
  refine AW.seq_j (fun s' σ' => σ' = Hp.empty ∧ s'.t 26 = .c (.bool (valOk v))) ?_ ?_
  · skip
    all_goals refine AW.reg0 ?_
    all_goals iterate 2 (refine S.g rfl rfl fun K' k' => ?_; simp only [zz, reduceIte, Nat.reduceEqDiff, Nat.reduceLT, Nat.reduceLeDiff, Nat.reduceAdd, reduceCtorEq, Nat.reduceMul, of141_0, ok3, sz3, ag3]; refine k' _ _ ?_; clear k' K')
    all_goals (refine S.g rfl rfl fun K' k' => ?_; simp only [zz, reduceIte, Nat.reduceEqDiff, Nat.reduceLT, Nat.reduceLeDiff, Nat.reduceAdd, reduceCtorEq, Nat.reduceMul]; refine S.bool fun b a5 => ?_; cases b <;> (try (exfalso; first | exact Bool.noConfusion a5 | (have h := of_decide_eq_true a5; omega) | (have h := of_decide_eq_false a5; omega))) <;> (refine k' _ _ ?_; clear k' K'))
    all_goals (refine S.g rfl rfl fun K' k' => ?_; simp only [zz, reduceIte, Nat.reduceEqDiff, Nat.reduceAdd]; refine k' _ _ ?_; clear k' K')
    all_goals iterate 2 (first | (refine S.y rfl rfl rfl rfl fun K' k' => ?_; simp only [zz, reduceIte, Nat.reduceEqDiff, Nat.reduceLT, Nat.reduceLeDiff, Nat.reduceAdd, reduceCtorEq, Nat.reduceMul, of141_2, ok9, sz9, ag9]; refine k' _ _ ?_; clear k' K') | ((first | refine S.x rfl rfl rfl rfl fun K' k' => ?_ | refine S.u rfl rfl rfl rfl fun K' k' => ?_); simp only [ze, reduceIte, Nat.reduceEqDiff]; refine k' _ _ ?_; clear k' K'))
    all_goals first | (refine S.y rfl rfl rfl rfl fun K' k' => ?_; simp only [zz, reduceIte, Nat.reduceEqDiff, Nat.reduceLT, Nat.reduceLeDiff, Nat.reduceAdd, reduceCtorEq, Nat.reduceMul]; refine S.bool fun b a9 => ?_; cases b <;> (try (exfalso; first | exact Bool.noConfusion a9 | (have h := of_decide_eq_true a9; omega) | (have h := of_decide_eq_false a9; omega))) <;> (refine k' _ _ ?_; clear k' K')) | ((first | refine S.x rfl rfl rfl rfl fun K' k' => ?_ | refine S.u rfl rfl rfl rfl fun K' k' => ?_); simp only [ze, reduceIte, Nat.reduceEqDiff]; (refine k' _ _ ?_; clear k' K'))
    all_goals iterate 2 (refine S.g rfl rfl fun K' k' => ?_; simp only [zz, reduceIte, Nat.reduceEqDiff, Nat.reduceAdd]; refine k' _ _ ?_; clear k' K')
    all_goals iterate 2 (first | (refine S.y rfl rfl rfl rfl fun K' k' => ?_; simp only [zz, reduceIte, Nat.reduceEqDiff, Nat.reduceLT, Nat.reduceLeDiff, Nat.reduceAdd, reduceCtorEq, Nat.reduceMul, of141_0, ok3, sz3, ag3]; refine k' _ _ ?_; clear k' K') | ((first | refine S.x rfl rfl rfl rfl fun K' k' => ?_ | refine S.u rfl rfl rfl rfl fun K' k' => ?_); simp only [ze, reduceIte, Nat.reduceEqDiff]; refine k' _ _ ?_; clear k' K'))
    all_goals first | (refine S.y rfl rfl rfl rfl fun K' k' => ?_; simp only [zz, reduceIte, Nat.reduceEqDiff, Nat.reduceLT, Nat.reduceLeDiff, Nat.reduceAdd, reduceCtorEq, Nat.reduceMul]; refine S.bool fun b a14 => ?_; cases b <;> (try (exfalso; first | exact Bool.noConfusion a14 | (have h := of_decide_eq_true a14; omega) | (have h := of_decide_eq_false a14; omega))) <;> (refine k' _ _ ?_; clear k' K')) | ((first | refine S.x rfl rfl rfl rfl fun K' k' => ?_ | refine S.u rfl rfl rfl rfl fun K' k' => ?_); simp only [ze, reduceIte, Nat.reduceEqDiff]; (refine k' _ _ ?_; clear k' K'))
    all_goals iterate 3 (first | (refine S.y rfl rfl rfl rfl fun K' k' => ?_; simp only [zz, reduceIte, Nat.reduceEqDiff, Nat.reduceLT, Nat.reduceLeDiff, Nat.reduceAdd, reduceCtorEq, Nat.reduceMul, of141_1, ok2, sz2, ag2]; refine k' _ _ ?_; clear k' K') | ((first | refine S.x rfl rfl rfl rfl fun K' k' => ?_ | refine S.u rfl rfl rfl rfl fun K' k' => ?_); simp only [ze, reduceIte, Nat.reduceEqDiff]; refine k' _ _ ?_; clear k' K'))
    all_goals first | (refine S.y rfl rfl rfl rfl fun K' k' => ?_; simp only [zz, reduceIte, Nat.reduceEqDiff, Nat.reduceLT, Nat.reduceLeDiff, Nat.reduceAdd, reduceCtorEq, Nat.reduceMul]; refine S.bool fun b a18 => ?_; cases b <;> (try (exfalso; first | exact Bool.noConfusion a18 | (have h := of_decide_eq_true a18; omega) | (have h := of_decide_eq_false a18; omega))) <;> (refine k' _ _ ?_; clear k' K')) | ((first | refine S.x rfl rfl rfl rfl fun K' k' => ?_ | refine S.u rfl rfl rfl rfl fun K' k' => ?_); simp only [ze, reduceIte, Nat.reduceEqDiff]; (refine k' _ _ ?_; clear k' K'))
    all_goals iterate 7 (first | (refine S.y rfl rfl rfl rfl fun K' k' => ?_; simp only [zz, reduceIte, Nat.reduceEqDiff, Nat.reduceLT, Nat.reduceLeDiff, Nat.reduceAdd, reduceCtorEq, Nat.reduceMul, of141_2, ok9, sz9, ag9, st9]; refine k' _ _ ?_; clear k' K') | ((first | refine S.x rfl rfl rfl rfl fun K' k' => ?_ | refine S.u rfl rfl rfl rfl fun K' k' => ?_); simp only [ze, reduceIte, Nat.reduceEqDiff]; refine k' _ _ ?_; clear k' K'))
    all_goals (refine S.g rfl rfl fun K' k' => ?_; simp only [zz, reduceIte, Nat.reduceEqDiff, Nat.reduceAdd]; refine k' _ _ ?_; clear k' K')
    all_goals refine S.nil ?_
    all_goals simp only [ze, reduceIte, Nat.reduceEqDiff, Nat.reduceLT, Nat.reduceLeDiff, Nat.reduceAdd, reduceCtorEq, Nat.reduceMul]
    all_goals (try simp only [beq_eq_false_iff_ne, decide_eq_true_eq, decide_eq_false_iff_not, beq_iff_eq, ne_eq, Bool.not_eq_true', Bool.not_eq_false', bne_iff_ne, bne_eq_false_iff_eq] at *)
    all_goals (try simp only [V.c.injEq, Value.bool.injEq, Value.int.injEq, true_and, valOk])
    all_goals first | done | rfl | omega | ((rw [Bool.eq_iff_iff]; simp only [beq_eq_false_iff_ne, decide_eq_true_eq, decide_eq_false_iff_not, beq_iff_eq, ne_eq, Bool.not_eq_true', Bool.not_eq_false', bne_iff_ne, bne_eq_false_iff_eq, Bool.false_or, Bool.true_or, Bool.or_false, Bool.or_true, Bool.false_and, Bool.and_false, Bool.true_and, Bool.and_true, Bool.not_true, Bool.not_false, Bool.or_eq_false_iff, Bool.and_eq_false_iff, Bool.or_eq_true, Bool.and_eq_true, Bool.false_eq_true, Bool.true_eq_false, true_iff, iff_true, false_iff, iff_false]) <;> omega)
  rintro s σ ⟨rfl, e26⟩
  refine AW.cond (b := valOk v) e26 (fun hc => ?_) (fun hc => AW.skip ?_)
  · refine AW.seq_k fun K3 h3 => ?_
    all_goals refine AW.reg0 ?_
    all_goals (refine S.g rfl rfl fun K' k' => ?_; simp only [zz, reduceIte, Nat.reduceEqDiff, Nat.reduceAdd]; refine k' _ _ ?_; clear k' K')
    all_goals refine S.nil ?_
    all_goals simp only [ze, reduceIte, Nat.reduceEqDiff, Nat.reduceLT, Nat.reduceLeDiff, Nat.reduceAdd, reduceCtorEq, Nat.reduceMul]
    all_goals first | refine h3 _ _ ?_ | refine h2 _ _ ?_ | refine h1 _ _ ?_
    refine AW.ret ?_
    all_goals simp only [zs, reduceIte, Nat.reduceEqDiff, Nat.reduceLT, Nat.reduceLeDiff, Nat.reduceAdd, reduceCtorEq, Nat.reduceMul]
    simp [valErr, hc]
  · all_goals simp only [zs, reduceIte, Nat.reduceEqDiff, Nat.reduceLT, Nat.reduceLeDiff, Nat.reduceAdd, reduceCtorEq, Nat.reduceMul]
    all_goals first | refine h3 _ _ ?_ | refine h2 _ _ ?_ | refine h1 _ _ ?_
    refine AW.seq_k fun K4 h4 => ?_
    all_goals refine AW.reg0 ?_
    all_goals (refine S.g rfl rfl fun K' k' => ?_; simp only [zz, reduceIte, Nat.reduceEqDiff, Nat.reduceAdd]; refine k' _ _ ?_; clear k' K')
    all_goals refine S.nil ?_
    all_goals simp only [ze, reduceIte, Nat.reduceEqDiff, Nat.reduceLT, Nat.reduceLeDiff, Nat.reduceAdd, reduceCtorEq, Nat.reduceMul]
    all_goals first | refine h4 _ _ ?_ | refine h3 _ _ ?_ | refine h2 _ _ ?_ | refine h1 _ _ ?_
    refine AW.ret ?_
    all_goals simp only [zs, reduceIte, Nat.reduceEqDiff, Nat.reduceLT, Nat.reduceLeDiff, Nat.reduceAdd, reduceCtorEq, Nat.reduceMul]
    simp [valErr, hc]
end Go.Abs.M
namespace Go.Abs.M
open Go Go.Abs Go.Proofs
set_option maxRecDepth 20000
set_option linter.unusedSimpArgs false
set_option linter.unusedVariables false

structure Ev where
  src : Int
  seq : Int
  time : Int
  type : ByteArray
  attrs : List Attr
def encEv (e : Ev) : List V := [.c (.int .i64 e.src), .c (.int .i64 e.seq), .c (.int .i64 e.time), .c (.string e.type), .sl (e.attrs.map encAttr)]
def leS (a b : ByteArray) : Bool := Op.bytesLess a.toList b.toList || a.toList == b.toList
def attrsFrom : Option ByteArray → List Attr → Int
  | _, [] => 0
  | p, a :: l => if isName a.name = false then 31 else if valErr a.v ≠ 0 then valErr a.v else if p.any (leS a.name ·) then 32 else attrsFrom (some a.name) l
def attrsErr (l : List Attr) : Int := if 8 < l.length then 3 else attrsFrom none l
def timeOk (n : Int) : Bool := decide (0 ≤ n ∧ n ≤ 1099511627776)
def evErr (e : Ev) : Int := if e.src < 0 ∨ 16 ≤ e.src ∨ timeOk e.seq = false ∨ timeOk e.time = false ∨ isName e.type = false then 40 else attrsErr e.attrs
/-- Texts that fit in a memory. -/
def okA (l : List Attr) : Prop := ∀ a ∈ l, a.name.size < 4611686018427387904 ∧ a.v.s.size < 4611686018427387904
structure okE (e : Ev) : Prop where
  type : e.type.size < 4611686018427387904
  len : e.attrs.length < 4611686018427387904
  attrs : okA e.attrs

theorem time_spec (n : Int) : PCalls Try.prog 112 [.c (.int .i64 n)] (fun r => r = .c (.bool (timeOk n))) := by
  refine PCalls.intro Try.call112 Try.func112 rfl Try.ntmps112 Try.results112 (by simp) ?_
  refine AW.seq_k fun K1 h1 => ?_
  all_goals refine AW.reg0 ?_
  all_goals (refine S.g rfl rfl fun K' k' => ?_; simp only [zz, reduceIte, Nat.reduceEqDiff, Nat.reduceAdd]; refine k' _ _ ?_; clear k' K')
  all_goals refine S.nil ?_
  all_goals simp only [ze, reduceIte, Nat.reduceEqDiff, Nat.reduceLT, Nat.reduceLeDiff, Nat.reduceAdd, reduceCtorEq, Nat.reduceMul]
  all_goals first | refine h1 _ _ ?_
  refine AW.seq_j (fun s' σ' => σ' = Hp.empty ∧ s'.t 2 = .c (.bool (timeOk n))) ?_ ?_
  · skip
    all_goals refine AW.reg0 ?_
    all_goals (refine S.g rfl rfl fun K' k' => ?_; simp only [zz, reduceIte, Nat.reduceEqDiff, Nat.reduceAdd]; refine k' _ _ ?_; clear k' K')
    all_goals (refine S.g rfl rfl fun K' k' => ?_; simp only [zz, reduceIte, Nat.reduceEqDiff, Nat.reduceLT, Nat.reduceLeDiff, Nat.reduceAdd, reduceCtorEq, Nat.reduceMul]; refine S.bool fun b a4 => ?_; cases b <;> (try (exfalso; first | exact Bool.noConfusion a4 | (have h := of_decide_eq_true a4; omega) | (have h := of_decide_eq_false a4; omega))) <;> (refine k' _ _ ?_; clear k' K'))
    all_goals (refine S.g rfl rfl fun K' k' => ?_; simp only [zz, reduceIte, Nat.reduceEqDiff, Nat.reduceAdd]; refine k' _ _ ?_; clear k' K')
    all_goals iterate 2 (first | (refine S.y rfl rfl rfl rfl fun K' k' => ?_; simp only [zz, reduceIte, Nat.reduceEqDiff, Nat.reduceAdd]; refine k' _ _ ?_; clear k' K') | ((first | refine S.x rfl rfl rfl rfl fun K' k' => ?_ | refine S.u rfl rfl rfl rfl fun K' k' => ?_); simp only [ze, reduceIte, Nat.reduceEqDiff]; refine k' _ _ ?_; clear k' K'))
    all_goals iterate 2 (refine S.g rfl rfl fun K' k' => ?_; simp only [zz, reduceIte, Nat.reduceEqDiff, Nat.reduceAdd]; refine k' _ _ ?_; clear k' K')
    all_goals refine S.nil ?_
    all_goals simp only [ze, reduceIte, Nat.reduceEqDiff, Nat.reduceLT, Nat.reduceLeDiff, Nat.reduceAdd, reduceCtorEq, Nat.reduceMul]
    all_goals (try simp only [beq_eq_false_iff_ne, decide_eq_true_eq, decide_eq_false_iff_not, beq_iff_eq, ne_eq, Bool.not_eq_true', Bool.not_eq_false', bne_iff_ne, bne_eq_false_iff_eq] at *)
    all_goals (try simp only [V.c.injEq, Value.bool.injEq, Value.int.injEq, true_and, timeOk])
    all_goals first | done | rfl | omega | ((rw [Bool.eq_iff_iff]; simp only [beq_eq_false_iff_ne, decide_eq_true_eq, decide_eq_false_iff_not, beq_iff_eq, ne_eq, Bool.not_eq_true', Bool.not_eq_false', bne_iff_ne, bne_eq_false_iff_eq, Bool.false_or, Bool.true_or, Bool.or_false, Bool.or_true, Bool.false_and, Bool.and_false, Bool.true_and, Bool.and_true, Bool.not_true, Bool.not_false, Bool.or_eq_false_iff, Bool.and_eq_false_iff, Bool.or_eq_true, Bool.and_eq_true, Bool.false_eq_true, Bool.true_eq_false, true_iff, iff_true, false_iff, iff_false]) <;> omega)
  rintro s σ ⟨rfl, e2⟩
  refine AW.ret ?_
  all_goals simp only [zs, reduceIte, Nat.reduceEqDiff, Nat.reduceLT, Nat.reduceLeDiff, Nat.reduceAdd, reduceCtorEq, Nat.reduceMul, e2]

theorem check_attrs (l : List Attr) (hl : okA l) : PCalls Try.prog 113 [.sl (l.map encAttr)] (fun r => r = .c (.int .i64 (attrsErr l))) := by
  refine PCalls.intro Try.call113 Try.func113 rfl Try.ntmps113 Try.results113 (by simp) ?_
  refine AW.seq_k fun K1 h1 => ?_
  all_goals refine AW.reg0 ?_
  all_goals (refine S.g rfl rfl fun K' k' => ?_; simp only [zz, reduceIte, Nat.reduceEqDiff, Nat.reduceAdd]; refine k' _ _ ?_; clear k' K')
  all_goals refine S.nil ?_
  all_goals simp only [ze, reduceIte, Nat.reduceEqDiff, Nat.reduceLT, Nat.reduceLeDiff, Nat.reduceAdd, reduceCtorEq, Nat.reduceMul]
  all_goals first | refine h1 _ _ ?_
  refine AW.seq_k fun K2 h2 => ?_
  refine AW.seq_k fun K3 h3 => ?_
  all_goals refine AW.reg0 ?_
  all_goals iterate 3 (refine S.g rfl rfl fun K' k' => ?_; simp only [zz, reduceIte, Nat.reduceEqDiff, Nat.reduceLT, Nat.reduceLeDiff, Nat.reduceAdd, reduceCtorEq, Nat.reduceMul, sl34, el34, ok143, sz143, ag143]; refine k' _ _ ?_; clear k' K')
  all_goals refine S.nil ?_
  all_goals simp only [ze, reduceIte, Nat.reduceEqDiff, Nat.reduceLT, Nat.reduceLeDiff, Nat.reduceAdd, reduceCtorEq, Nat.reduceMul]
  all_goals first | refine h3 _ _ ?_ | refine h2 _ _ ?_ | refine h1 _ _ ?_
  refine AW.cond (b := decide ((l.length : Int) > 8)) (by simp [ev]) (fun hc => ?_) (fun hc => ?_)
  · refine AW.seq_k fun K4 h4 => ?_
    all_goals refine AW.reg0 ?_
    all_goals (refine S.g rfl rfl fun K' k' => ?_; simp only [zz, reduceIte, Nat.reduceEqDiff, Nat.reduceAdd]; refine k' _ _ ?_; clear k' K')
    all_goals refine S.nil ?_
    all_goals simp only [ze, reduceIte, Nat.reduceEqDiff, Nat.reduceLT, Nat.reduceLeDiff, Nat.reduceAdd, reduceCtorEq, Nat.reduceMul]
    all_goals first | refine h4 _ _ ?_ | refine h3 _ _ ?_ | refine h2 _ _ ?_ | refine h1 _ _ ?_
    refine AW.ret ?_
    all_goals simp only [zs, reduceIte, Nat.reduceEqDiff, Nat.reduceLT, Nat.reduceLeDiff, Nat.reduceAdd, reduceCtorEq, Nat.reduceMul]
    have : 8 < l.length := by have := of_decide_eq_true hc; omega
    simp [attrsErr, this]
  · refine AW.skip ?_
    all_goals simp only [zs, reduceIte, Nat.reduceEqDiff, Nat.reduceLT, Nat.reduceLeDiff, Nat.reduceAdd, reduceCtorEq, Nat.reduceMul]
    all_goals first | refine h4 _ _ ?_ | refine h3 _ _ ?_ | refine h2 _ _ ?_ | refine h1 _ _ ?_
    have hlen : l.length ≤ 8 := by have := of_decide_eq_false hc; omega
    refine AW.seq_k fun K5 h5 => ?_
    refine AW.seq_k fun K6 h6 => ?_
    all_goals refine AW.reg0 ?_
    all_goals iterate 3 (refine S.g rfl rfl fun K' k' => ?_; simp only [zz, reduceIte, Nat.reduceEqDiff, Nat.reduceLT, Nat.reduceLeDiff, Nat.reduceAdd, reduceCtorEq, Nat.reduceMul, sl34, el34, ok143, sz143, ag143]; refine k' _ _ ?_; clear k' K')
    all_goals refine S.nil ?_
    all_goals simp only [ze, reduceIte, Nat.reduceEqDiff, Nat.reduceLT, Nat.reduceLeDiff, Nat.reduceAdd, reduceCtorEq, Nat.reduceMul]
    all_goals first | refine h6 _ _ ?_ | refine h5 _ _ ?_ | refine h4 _ _ ?_ | refine h3 _ _ ?_ | refine h2 _ _ ?_ | refine h1 _ _ ?_
    refine AW.block ?_   -- 0
    refine AW.loop (fun m s σ => σ = Hp.empty ∧ ∃ i : Nat, m + i = l.length ∧ s.t 0 = .sl (l.map encAttr) ∧ s.t 9 = .sl (l.map encAttr) ∧ s.t 10 = .c (.int .i64 l.length) ∧ s.t 11 = .c (.int .i64 i) ∧ 
      attrsFrom none l = attrsFrom (if i = 0 then none else (l[i-1]?).map (·.name)) (l.drop i)) l.length ?_ ?_
    · refine ⟨rfl, 0, by simp, ?_⟩
      all_goals simp only [zs, reduceIte, Nat.reduceEqDiff, Nat.reduceLT, Nat.reduceLeDiff, Nat.reduceAdd, reduceCtorEq, Nat.reduceMul]
      simp
    rintro m s σ ⟨rfl, i, hm, e0, e9, e10, e11, hp⟩
    refine AW.seq_k fun K7 h7 => ?_
    all_goals refine AW.reg0 ?_
    all_goals (refine S.g rfl rfl fun K' k' => ?_; simp only [zz, reduceIte, Nat.reduceEqDiff, Nat.reduceAdd, e10, e11]; refine k' _ _ ?_; clear k' K')
    all_goals refine S.nil ?_
    all_goals simp only [ze, reduceIte, Nat.reduceEqDiff, Nat.reduceLT, Nat.reduceLeDiff, Nat.reduceAdd, reduceCtorEq, Nat.reduceMul, e10, e11]
    all_goals first | refine h7 _ _ ?_ | refine h6 _ _ ?_ | refine h5 _ _ ?_ | refine h4 _ _ ?_ | refine h3 _ _ ?_ | refine h2 _ _ ?_ | refine h1 _ _ ?_
    refine AW.seq_k fun K8 h8 => ?_
    refine AW.cond (b := decide (i < l.length)) (by simp [ev]) (fun hc => ?_) (fun hc => ?_)
    · refine AW.skip ?_
      all_goals simp only [zs, reduceIte, Nat.reduceEqDiff, Nat.reduceLT, Nat.reduceLeDiff, Nat.reduceAdd, reduceCtorEq, Nat.reduceMul]
      all_goals first | refine h8 _ _ ?_ | refine h7 _ _ ?_ | refine h6 _ _ ?_ | refine h5 _ _ ?_ | refine h4 _ _ ?_ | refine h3 _ _ ?_ | refine h2 _ _ ?_ | refine h1 _ _ ?_
      have hi : i < l.length := by simpa using hc
      have hg := getD_map (f := encAttr) hi
      have hd : l.drop i = l[i] :: l.drop (i + 1) := List.drop_eq_getElem_cons hi
      have hmem := hl _ (List.getElem_mem hi)
      generalize ha : l[i] = a at hg hd hmem
      obtain ⟨hn1, hn2⟩ := hmem
      refine AW.seq_k fun K9 h9 => ?_
      refine AW.block ?_   -- 1
      refine AW.seq_k fun K10 h10 => ?_
      all_goals refine AW.reg0 ?_
      all_goals iterate 6 (refine S.g rfl rfl fun K' k' => ?_; simp only [zz, reduceIte, Nat.reduceEqDiff, Nat.reduceLT, Nat.reduceLeDiff, Nat.reduceAdd, reduceCtorEq, Nat.reduceMul, sl34, el34, ok143, sz143, ag143, zt143, e9, e11, hi, hg, encAttr]; refine k' _ _ ?_; clear k' K')
      all_goals refine S.nil ?_
      all_goals simp only [ze, reduceIte, Nat.reduceEqDiff, Nat.reduceLT, Nat.reduceLeDiff, Nat.reduceAdd, reduceCtorEq, Nat.reduceMul, e9, e11, hi, hg, encAttr]
      all_goals first | refine h10 _ _ ?_ | refine h9 _ _ ?_ | refine h8 _ _ ?_ | refine h7 _ _ ?_ | refine h6 _ _ ?_ | refine h5 _ _ ?_ | refine h4 _ _ ?_ | refine h3 _ _ ?_ | refine h2 _ _ ?_ | refine h1 _ _ ?_
      refine AW.seq_k fun K11 h11 => ?_
      refine AW.seq_k fun K12 h12 => ?_
      all_goals refine AW.reg0 ?_
      all_goals iterate 2 (refine S.g rfl rfl fun K' k' => ?_; simp only [zz, reduceIte, Nat.reduceEqDiff, Nat.reduceLT, Nat.reduceLeDiff, Nat.reduceAdd, reduceCtorEq, Nat.reduceMul, of143_0, ok9, sz9, ag9]; refine k' _ _ ?_; clear k' K')
      all_goals (refine S.g rfl rfl fun K' k' => ?_; simp only [zz, reduceIte, Nat.reduceEqDiff, Nat.reduceLT, Nat.reduceLeDiff, Nat.reduceAdd, reduceCtorEq, Nat.reduceMul]; refine PCalls.eqto (name_spec _ (by assumption)) ?_ <;> (refine k' _ _ ?_; clear k' K'))
      all_goals (refine S.g rfl rfl fun K' k' => ?_; simp only [zz, reduceIte, Nat.reduceEqDiff, Nat.reduceAdd]; refine k' _ _ ?_; clear k' K')
      all_goals refine S.nil ?_
      all_goals simp only [ze, reduceIte, Nat.reduceEqDiff, Nat.reduceLT, Nat.reduceLeDiff, Nat.reduceAdd, reduceCtorEq, Nat.reduceMul]
      all_goals first | refine h12 _ _ ?_ | refine h11 _ _ ?_ | refine h10 _ _ ?_ | refine h9 _ _ ?_ | refine h8 _ _ ?_ | refine h7 _ _ ?_ | refine h6 _ _ ?_ | refine h5 _ _ ?_ | refine h4 _ _ ?_ | refine h3 _ _ ?_ | refine h2 _ _ ?_ | refine h1 _ _ ?_
      refine AW.cond (b := !isName a.name) (by simp [ev]) (fun hc => ?_) (fun hc => ?_)
      · refine AW.seq_k fun K13 h13 => ?_
        all_goals refine AW.reg0 ?_
        all_goals (refine S.g rfl rfl fun K' k' => ?_; simp only [zz, reduceIte, Nat.reduceEqDiff, Nat.reduceAdd]; refine k' _ _ ?_; clear k' K')
        all_goals refine S.nil ?_
        all_goals simp only [ze, reduceIte, Nat.reduceEqDiff, Nat.reduceLT, Nat.reduceLeDiff, Nat.reduceAdd, reduceCtorEq, Nat.reduceMul]
        all_goals first | refine h13 _ _ ?_ | refine h12 _ _ ?_ | refine h11 _ _ ?_ | refine h10 _ _ ?_ | refine h9 _ _ ?_ | refine h8 _ _ ?_ | refine h7 _ _ ?_ | refine h6 _ _ ?_ | refine h5 _ _ ?_ | refine h4 _ _ ?_ | refine h3 _ _ ?_ | refine h2 _ _ ?_ | refine h1 _ _ ?_
        refine AW.ret ?_
        all_goals simp only [zs, reduceIte, Nat.reduceEqDiff, Nat.reduceLT, Nat.reduceLeDiff, Nat.reduceAdd, reduceCtorEq, Nat.reduceMul]
        have hx : isName a.name = false := by simpa using hc
        have h8 : ¬ 8 < l.length := by omega
        simp [attrsErr, h8, hp, hd, attrsFrom, hx]
      · refine AW.skip ?_
        all_goals simp only [zs, reduceIte, Nat.reduceEqDiff, Nat.reduceLT, Nat.reduceLeDiff, Nat.reduceAdd, reduceCtorEq, Nat.reduceMul]
        all_goals first | refine h13 _ _ ?_ | refine h12 _ _ ?_ | refine h11 _ _ ?_ | refine h10 _ _ ?_ | refine h9 _ _ ?_ | refine h8 _ _ ?_ | refine h7 _ _ ?_ | refine h6 _ _ ?_ | refine h5 _ _ ?_ | refine h4 _ _ ?_ | refine h3 _ _ ?_ | refine h2 _ _ ?_ | refine h1 _ _ ?_
        have hx : isName a.name = true := by simpa using hc
        refine AW.seq_k fun K14 h14 => ?_
        refine AW.seq_k fun K15 h15 => ?_
        all_goals refine AW.reg0 ?_
        all_goals iterate 2 (refine S.g rfl rfl fun K' k' => ?_; simp only [zz, reduceIte, Nat.reduceEqDiff, Nat.reduceLT, Nat.reduceLeDiff, Nat.reduceAdd, reduceCtorEq, Nat.reduceMul, of143_1, ok141, sz141, ag141]; refine k' _ _ ?_; clear k' K')
        all_goals (refine S.g rfl rfl fun K' k' => ?_; simp only [zz, reduceIte, Nat.reduceEqDiff, Nat.reduceLT, Nat.reduceLeDiff, Nat.reduceAdd, reduceCtorEq, Nat.reduceMul]; refine PCalls.eqto (check_val _) ?_ <;> (refine k' _ _ ?_; clear k' K'))
        all_goals (refine S.g rfl rfl fun K' k' => ?_; simp only [zz, reduceIte, Nat.reduceEqDiff, Nat.reduceAdd]; refine k' _ _ ?_; clear k' K')
        all_goals refine S.nil ?_
        all_goals simp only [ze, reduceIte, Nat.reduceEqDiff, Nat.reduceLT, Nat.reduceLeDiff, Nat.reduceAdd, reduceCtorEq, Nat.reduceMul]
        all_goals first | refine h15 _ _ ?_ | refine h14 _ _ ?_ | refine h13 _ _ ?_ | refine h12 _ _ ?_ | refine h11 _ _ ?_ | refine h10 _ _ ?_ | refine h9 _ _ ?_ | refine h8 _ _ ?_ | refine h7 _ _ ?_ | refine h6 _ _ ?_ | refine h5 _ _ ?_ | refine h4 _ _ ?_ | refine h3 _ _ ?_ | refine h2 _ _ ?_ | refine h1 _ _ ?_
        refine AW.seq_k fun K16 h16 => ?_
        all_goals refine AW.reg0 ?_
        all_goals iterate 2 (refine S.g rfl rfl fun K' k' => ?_; simp only [zz, reduceIte, Nat.reduceEqDiff, Nat.reduceAdd]; refine k' _ _ ?_; clear k' K')
        all_goals refine S.nil ?_
        all_goals simp only [ze, reduceIte, Nat.reduceEqDiff, Nat.reduceLT, Nat.reduceLeDiff, Nat.reduceAdd, reduceCtorEq, Nat.reduceMul]
        all_goals first | refine h16 _ _ ?_ | refine h15 _ _ ?_ | refine h14 _ _ ?_ | refine h13 _ _ ?_ | refine h12 _ _ ?_ | refine h11 _ _ ?_ | refine h10 _ _ ?_ | refine h9 _ _ ?_ | refine h8 _ _ ?_ | refine h7 _ _ ?_ | refine h6 _ _ ?_ | refine h5 _ _ ?_ | refine h4 _ _ ?_ | refine h3 _ _ ?_ | refine h2 _ _ ?_ | refine h1 _ _ ?_
        refine AW.cond (b := valErr a.v != 0) (by simp [ev]) (fun hc => ?_) (fun hc => ?_)
        · refine AW.seq_k fun K17 h17 => ?_
          all_goals refine AW.reg0 ?_
          all_goals iterate 2 (refine S.g rfl rfl fun K' k' => ?_; simp only [zz, reduceIte, Nat.reduceEqDiff, Nat.reduceAdd]; refine k' _ _ ?_; clear k' K')
          all_goals refine S.nil ?_
          all_goals simp only [ze, reduceIte, Nat.reduceEqDiff, Nat.reduceLT, Nat.reduceLeDiff, Nat.reduceAdd, reduceCtorEq, Nat.reduceMul]
          all_goals first | refine h17 _ _ ?_ | refine h16 _ _ ?_ | refine h15 _ _ ?_ | refine h14 _ _ ?_ | refine h13 _ _ ?_ | refine h12 _ _ ?_ | refine h11 _ _ ?_ | refine h10 _ _ ?_ | refine h9 _ _ ?_ | refine h8 _ _ ?_ | refine h7 _ _ ?_ | refine h6 _ _ ?_ | refine h5 _ _ ?_ | refine h4 _ _ ?_ | refine h3 _ _ ?_ | refine h2 _ _ ?_ | refine h1 _ _ ?_
          refine AW.ret ?_
          all_goals simp only [zs, reduceIte, Nat.reduceEqDiff, Nat.reduceLT, Nat.reduceLeDiff, Nat.reduceAdd, reduceCtorEq, Nat.reduceMul]
          have hy : valErr a.v ≠ 0 := by simpa using hc
          have h8 : ¬ 8 < l.length := by omega
          simp [attrsErr, h8, hp, hd, attrsFrom, hx, hy]
        · refine AW.skip ?_
          all_goals simp only [zs, reduceIte, Nat.reduceEqDiff, Nat.reduceLT, Nat.reduceLeDiff, Nat.reduceAdd, reduceCtorEq, Nat.reduceMul]
          all_goals first | refine h17 _ _ ?_ | refine h16 _ _ ?_ | refine h15 _ _ ?_ | refine h14 _ _ ?_ | refine h13 _ _ ?_ | refine h12 _ _ ?_ | refine h11 _ _ ?_ | refine h10 _ _ ?_ | refine h9 _ _ ?_ | refine h8 _ _ ?_ | refine h7 _ _ ?_ | refine h6 _ _ ?_ | refine h5 _ _ ?_ | refine h4 _ _ ?_ | refine h3 _ _ ?_ | refine h2 _ _ ?_ | refine h1 _ _ ?_
          have hy : valErr a.v = 0 := by simpa using hc
          refine AW.seq_j (fun s' σ' => σ' = Hp.empty ∧ s'.t 0 = .sl (l.map encAttr) ∧ s'.t 9 = .sl (l.map encAttr) ∧ s'.t 10 = .c (.int .i64 l.length) ∧ s'.t 11 = .c (.int .i64 i) ∧
            s'.t 38 = .c (.bool ((if i = 0 then none else (l[i-1]?).map (·.name)).any (leS a.name ·)))) ?_ ?_
          · clear hp hd
            by_cases hi0 : i = 0
            · subst hi0
              all_goals refine AW.draw (T := { sd := fun d => d == 4 }) (fun _ _ h => by cases h) mixedO [(0, 0), (1, 0), (2, 0), (3, 0), (5, 0), (6, 0), (7, 0), (8, 0), (9, 0), (4, 1), (10, 1), (11, 0), (12, 0)] rfl (by kernel_rfl) (by kernel_rfl) ?_
              all_goals (refine D.g rfl trivial rfl rfl fun K' k' => ?_; simp only [zz, reduceIte, Nat.reduceEqDiff, Nat.reduceAdd, e0, e9, e10, e11]; refine k' _ _ ?_; clear k' K')
              all_goals (refine D.g rfl trivial rfl rfl fun K' k' => ?_; simp only [zz, reduceIte, Nat.reduceEqDiff, Nat.reduceLT, Nat.reduceLeDiff, Nat.reduceAdd, reduceCtorEq, Nat.reduceMul, e0, e9, e10, e11]; refine S.bool fun b a27 => ?_; cases b <;> (try (exfalso; first | exact Bool.noConfusion a27 | (have h := of_decide_eq_true a27; omega) | (have h := of_decide_eq_false a27; omega))) <;> (refine k' _ _ ?_; clear k' K'))
              all_goals (refine D.g rfl trivial rfl rfl fun K' k' => ?_; simp only [zz, reduceIte, Nat.reduceEqDiff, Nat.reduceAdd, e0, e9, e10, e11]; refine k' _ _ ?_; clear k' K')
              all_goals iterate 6 (first | (refine D.y rfl trivial rfl rfl rfl rfl fun K' k' => ?_; simp only [zz, reduceIte, Nat.reduceEqDiff, Nat.reduceLT, Nat.reduceLeDiff, Nat.reduceAdd, reduceCtorEq, Nat.reduceMul, of143_0, sl34, el34, ok143, sz143, ag143, e0, e9, e10, e11]; refine k' _ _ ?_; clear k' K') | ((first | refine D.x rfl (fun h => by cases h) rfl rfl rfl rfl fun K' k' => ?_ | refine D.u rfl (fun h => by cases h) rfl rfl rfl rfl fun K' k' => ?_); simp only [ze, reduceIte, Nat.reduceEqDiff]; refine k' _ _ ?_; clear k' K'))
              all_goals iterate 2 (first | (refine D.y rfl rfl rfl rfl rfl rfl fun K' k' => ?_; simp only [zz, reduceIte, Nat.reduceEqDiff, Nat.reduceLT, Nat.reduceLeDiff, Nat.reduceAdd, reduceCtorEq, Nat.reduceMul, ok9, sz9, ag9, e0, e9, e10, e11]; refine k' _ _ ?_; clear k' K') | ((first | refine D.x rfl (fun _ => rfl) rfl rfl rfl rfl fun K' k' => ?_ | refine D.u rfl (fun _ => rfl) rfl rfl rfl rfl fun K' k' => ?_); simp only [ze, reduceIte, Nat.reduceEqDiff]; refine k' _ _ ?_; clear k' K'))
              all_goals (first | (refine D.y rfl trivial rfl rfl rfl rfl fun K' k' => ?_; simp only [zz, reduceIte, Nat.reduceEqDiff, Nat.reduceAdd, e0, e9, e10, e11]; refine k' _ _ ?_; clear k' K') | ((first | refine D.x rfl (fun h => by cases h) rfl rfl rfl rfl fun K' k' => ?_ | refine D.u rfl (fun h => by cases h) rfl rfl rfl rfl fun K' k' => ?_); simp only [ze, reduceIte, Nat.reduceEqDiff]; refine k' _ _ ?_; clear k' K'))
              all_goals (refine D.g rfl trivial rfl rfl fun K' k' => ?_; simp only [zz, reduceIte, Nat.reduceEqDiff, Nat.reduceAdd, e0, e9, e10, e11]; refine k' _ _ ?_; clear k' K')
              all_goals refine D.nil ?_
              all_goals simp only [ze, reduceIte, Nat.reduceEqDiff, Nat.reduceLT, Nat.reduceLeDiff, Nat.reduceAdd, reduceCtorEq, Nat.reduceMul, e0, e9, e10, e11]
              simp
            · have hi1 : i - 1 < l.length := by omega
              have hg1 := getD_map (f := encAttr) hi1
              have hw : IntKind.i64.wrap ((i : Int) - 1) = ((i - 1 : Nat) : Int) := by rw [wrap_small _ (by omega) (by omega)]; omega
              all_goals refine AW.draw (T := { sd := fun d => d == 4 }) (fun _ _ h => by cases h) mixedO [(0, 0), (1, 0), (2, 0), (3, 0), (5, 0), (6, 0), (7, 0), (8, 0), (9, 0), (4, 1), (10, 1), (11, 0), (12, 0)] rfl (by kernel_rfl) (by kernel_rfl) ?_
              all_goals (refine D.g rfl trivial rfl rfl fun K' k' => ?_; simp only [zz, reduceIte, Nat.reduceEqDiff, Nat.reduceAdd, e0, e9, e10, e11, hi1, hg1, encAttr, hw]; refine k' _ _ ?_; clear k' K')
              all_goals (refine D.g rfl trivial rfl rfl fun K' k' => ?_; simp only [zz, reduceIte, Nat.reduceEqDiff, Nat.reduceLT, Nat.reduceLeDiff, Nat.reduceAdd, reduceCtorEq, Nat.reduceMul, e0, e9, e10, e11, hi1, hg1, encAttr, hw]; refine S.bool fun b a27 => ?_; cases b <;> (try (exfalso; first | exact Bool.noConfusion a27 | (have h := of_decide_eq_true a27; omega) | (have h := of_decide_eq_false a27; omega))) <;> (refine k' _ _ ?_; clear k' K'))
              all_goals (refine D.g rfl trivial rfl rfl fun K' k' => ?_; simp only [zz, reduceIte, Nat.reduceEqDiff, Nat.reduceAdd, e0, e9, e10, e11, hi1, hg1, encAttr, hw]; refine k' _ _ ?_; clear k' K')
              all_goals iterate 6 (first | (refine D.y rfl trivial rfl rfl rfl rfl fun K' k' => ?_; simp only [zz, reduceIte, Nat.reduceEqDiff, Nat.reduceLT, Nat.reduceLeDiff, Nat.reduceAdd, reduceCtorEq, Nat.reduceMul, of143_0, sl34, el34, ok143, sz143, ag143, e0, e9, e10, e11, hi1, hg1, encAttr, hw]; refine k' _ _ ?_; clear k' K') | ((first | refine D.x rfl (fun h => by cases h) rfl rfl rfl rfl fun K' k' => ?_ | refine D.u rfl (fun h => by cases h) rfl rfl rfl rfl fun K' k' => ?_); simp only [ze, reduceIte, Nat.reduceEqDiff]; refine k' _ _ ?_; clear k' K'))
              all_goals iterate 2 (first | (refine D.y rfl rfl rfl rfl rfl rfl fun K' k' => ?_; simp only [zz, reduceIte, Nat.reduceEqDiff, Nat.reduceLT, Nat.reduceLeDiff, Nat.reduceAdd, reduceCtorEq, Nat.reduceMul, ok9, sz9, ag9, e0, e9, e10, e11, hi1, hg1, encAttr, hw]; refine k' _ _ ?_; clear k' K') | ((first | refine D.x rfl (fun _ => rfl) rfl rfl rfl rfl fun K' k' => ?_ | refine D.u rfl (fun _ => rfl) rfl rfl rfl rfl fun K' k' => ?_); simp only [ze, reduceIte, Nat.reduceEqDiff]; refine k' _ _ ?_; clear k' K'))
              all_goals (first | (refine D.y rfl trivial rfl rfl rfl rfl fun K' k' => ?_; simp only [zz, reduceIte, Nat.reduceEqDiff, Nat.reduceAdd, e0, e9, e10, e11, hi1, hg1, encAttr, hw]; refine k' _ _ ?_; clear k' K') | ((first | refine D.x rfl (fun h => by cases h) rfl rfl rfl rfl fun K' k' => ?_ | refine D.u rfl (fun h => by cases h) rfl rfl rfl rfl fun K' k' => ?_); simp only [ze, reduceIte, Nat.reduceEqDiff]; refine k' _ _ ?_; clear k' K'))
              all_goals (refine D.g rfl trivial rfl rfl fun K' k' => ?_; simp only [zz, reduceIte, Nat.reduceEqDiff, Nat.reduceAdd, e0, e9, e10, e11, hi1, hg1, encAttr, hw]; refine k' _ _ ?_; clear k' K')
              all_goals refine D.nil ?_
              all_goals simp only [ze, reduceIte, Nat.reduceEqDiff, Nat.reduceLT, Nat.reduceLeDiff, Nat.reduceAdd, reduceCtorEq, Nat.reduceMul, e0, e9, e10, e11, hi1, hg1, encAttr, hw]
              simp [hi0, hi1, leS]
          rintro s1 σ1 ⟨rfl, f0, f9, f10, f11, f38⟩
          refine AW.cond (b := _) f38 (fun hc => ?_) (fun hc => ?_)
          · refine AW.seq_k fun K18 h18 => ?_
            all_goals refine AW.reg0 ?_
            all_goals (refine S.g rfl rfl fun K' k' => ?_; simp only [zz, reduceIte, Nat.reduceEqDiff, Nat.reduceAdd]; refine k' _ _ ?_; clear k' K')
            all_goals refine S.nil ?_
            all_goals simp only [ze, reduceIte, Nat.reduceEqDiff, Nat.reduceLT, Nat.reduceLeDiff, Nat.reduceAdd, reduceCtorEq, Nat.reduceMul]
            all_goals first | refine h18 _ _ ?_ | refine h17 _ _ ?_ | refine h16 _ _ ?_ | refine h15 _ _ ?_ | refine h14 _ _ ?_ | refine h13 _ _ ?_ | refine h12 _ _ ?_ | refine h11 _ _ ?_ | refine h10 _ _ ?_ | refine h9 _ _ ?_ | refine h8 _ _ ?_ | refine h7 _ _ ?_ | refine h6 _ _ ?_ | refine h5 _ _ ?_ | refine h4 _ _ ?_ | refine h3 _ _ ?_ | refine h2 _ _ ?_ | refine h1 _ _ ?_
            refine AW.ret ?_
            all_goals simp only [zs, reduceIte, Nat.reduceEqDiff, Nat.reduceLT, Nat.reduceLeDiff, Nat.reduceAdd, reduceCtorEq, Nat.reduceMul]
            have h8 : ¬ 8 < l.length := by omega
            simp [attrsErr, h8, hp, hd, attrsFrom, hx, hy, hc]
          · refine AW.skip ?_
            all_goals simp only [zs, reduceIte, Nat.reduceEqDiff, Nat.reduceLT, Nat.reduceLeDiff, Nat.reduceAdd, reduceCtorEq, Nat.reduceMul]
            all_goals first | refine h18 _ _ ?_ | refine h17 _ _ ?_ | refine h16 _ _ ?_ | refine h15 _ _ ?_ | refine h14 _ _ ?_ | refine h13 _ _ ?_ | refine h12 _ _ ?_ | refine h11 _ _ ?_ | refine h10 _ _ ?_ | refine h9 _ _ ?_ | refine h8 _ _ ?_ | refine h7 _ _ ?_ | refine h6 _ _ ?_ | refine h5 _ _ ?_ | refine h4 _ _ ?_ | refine h3 _ _ ?_ | refine h2 _ _ ?_ | refine h1 _ _ ?_
            have hw : IntKind.i64.wrap ((i : Int) + 1) = ((i + 1 : Nat) : Int) := by rw [wrap_small _ (by omega) (by omega)]; rfl
            all_goals refine AW.reg0 ?_
            all_goals iterate 2 (refine S.g rfl rfl fun K' k' => ?_; simp only [zz, reduceIte, Nat.reduceEqDiff, Nat.reduceAdd, f11, hw]; refine k' _ _ ?_; clear k' K')
            all_goals refine S.nil ?_
            all_goals simp only [ze, reduceIte, Nat.reduceEqDiff, Nat.reduceLT, Nat.reduceLeDiff, Nat.reduceAdd, reduceCtorEq, Nat.reduceMul, f11, hw]
            refine ⟨m - 1, by omega, i + 1, by omega, f0, f9, f10, rfl, ?_⟩
            rw [hp, hd, attrsFrom]
            simp [hx, hy, hc, ha, hi]
    · refine AW.exit ?_
      all_goals simp only [zs, reduceIte, Nat.reduceEqDiff, Nat.reduceLT, Nat.reduceLeDiff, Nat.reduceAdd, reduceCtorEq, Nat.reduceMul]
      -- EXIT 0
      all_goals first | refine h18 _ _ ?_ | refine h17 _ _ ?_ | refine h16 _ _ ?_ | refine h15 _ _ ?_ | refine h14 _ _ ?_ | refine h13 _ _ ?_ | refine h12 _ _ ?_ | refine h11 _ _ ?_ | refine h10 _ _ ?_ | refine h9 _ _ ?_ | refine h8 _ _ ?_ | refine h7 _ _ ?_ | refine h6 _ _ ?_ | refine h5 _ _ ?_ | refine h4 _ _ ?_ | refine h3 _ _ ?_ | refine h2 _ _ ?_ | refine h1 _ _ ?_
      refine AW.seq_k fun K19 h19 => ?_
      all_goals refine AW.reg0 ?_
      all_goals (refine S.g rfl rfl fun K' k' => ?_; simp only [zz, reduceIte, Nat.reduceEqDiff, Nat.reduceAdd]; refine k' _ _ ?_; clear k' K')
      all_goals refine S.nil ?_
      all_goals simp only [ze, reduceIte, Nat.reduceEqDiff, Nat.reduceLT, Nat.reduceLeDiff, Nat.reduceAdd, reduceCtorEq, Nat.reduceMul]
      all_goals first | refine h19 _ _ ?_ | refine h18 _ _ ?_ | refine h17 _ _ ?_ | refine h16 _ _ ?_ | refine h15 _ _ ?_ | refine h14 _ _ ?_ | refine h13 _ _ ?_ | refine h12 _ _ ?_ | refine h11 _ _ ?_ | refine h10 _ _ ?_ | refine h9 _ _ ?_ | refine h8 _ _ ?_ | refine h7 _ _ ?_ | refine h6 _ _ ?_ | refine h5 _ _ ?_ | refine h4 _ _ ?_ | refine h3 _ _ ?_ | refine h2 _ _ ?_ | refine h1 _ _ ?_
      refine AW.ret ?_
      all_goals simp only [zs, reduceIte, Nat.reduceEqDiff, Nat.reduceLT, Nat.reduceLeDiff, Nat.reduceAdd, reduceCtorEq, Nat.reduceMul]
      have hi : l.length ≤ i := by simpa using hc
      have h8 : ¬ 8 < l.length := by omega
      simp [attrsErr, h8, hp, List.drop_of_length_le hi, attrsFrom]
theorem check_ev (e : Ev) (he : okE e) : PCalls Try.prog 78 [.agg (encEv e)] (fun r => r = .c (.int .i64 (evErr e))) := by
  have h1 := he.type
  have h2 := he.attrs
  refine PCalls.intro Try.call78 Try.func78 rfl Try.ntmps78 Try.results78 (by simp) ?_
  refine AW.seq_k fun K1 h1 => ?_
  all_goals refine AW.reg0 ?_
  all_goals iterate 2 (refine S.g rfl rfl fun K' k' => ?_; simp only [zz, reduceIte, Nat.reduceEqDiff, Nat.reduceLT, Nat.reduceLeDiff, Nat.reduceAdd, reduceCtorEq, Nat.reduceMul, ok36, sz36, ag36, encEv]; refine k' _ _ ?_; clear k' K')
  all_goals refine S.nil ?_
  all_goals simp only [ze, reduceIte, Nat.reduceEqDiff, Nat.reduceLT, Nat.reduceLeDiff, Nat.reduceAdd, reduceCtorEq, Nat.reduceMul, encEv]
  all_goals first | refine h1 _ _ ?_
  refine AW.seq_k fun K2 h2 => ?_
  refine AW.seq_j (fun s' σ' => σ' = Hp.empty ∧ s'.l 1 = some (encEv e) ∧ s'.t 1 = .lp 1 0 ∧ s'.t 31 = .c (.bool (decide (e.src < 0 ∨ 16 ≤ e.src ∨ timeOk e.seq = false ∨ timeOk e.time = false ∨ isName e.type = false)))) ?_ ?_
  · skip
    all_goals refine AW.reg0 ?_
    all_goals iterate 3 (refine S.g rfl rfl fun K' k' => ?_; simp only [zz, reduceIte, Nat.reduceEqDiff, Nat.reduceLT, Nat.reduceLeDiff, Nat.reduceAdd, reduceCtorEq, Nat.reduceMul, of36_0, of33_0, ok3, sz3, ag3, encEv]; refine k' _ _ ?_; clear k' K')
    all_goals (refine S.g rfl rfl fun K' k' => ?_; simp only [zz, reduceIte, Nat.reduceEqDiff, Nat.reduceLT, Nat.reduceLeDiff, Nat.reduceAdd, reduceCtorEq, Nat.reduceMul, encEv]; refine S.bool fun b a6 => ?_; cases b <;> (try (exfalso; first | exact Bool.noConfusion a6 | (have h := of_decide_eq_true a6; omega) | (have h := of_decide_eq_false a6; omega))) <;> (refine k' _ _ ?_; clear k' K'))
    all_goals (refine S.g rfl rfl fun K' k' => ?_; simp only [zz, reduceIte, Nat.reduceEqDiff, Nat.reduceAdd, encEv]; refine k' _ _ ?_; clear k' K')
    all_goals iterate 3 (first | (refine S.y rfl rfl rfl rfl fun K' k' => ?_; simp only [zz, reduceIte, Nat.reduceEqDiff, Nat.reduceLT, Nat.reduceLeDiff, Nat.reduceAdd, reduceCtorEq, Nat.reduceMul, of36_0, of33_0, ok3, sz3, ag3, encEv]; refine k' _ _ ?_; clear k' K') | ((first | refine S.x rfl rfl rfl rfl fun K' k' => ?_ | refine S.u rfl rfl rfl rfl fun K' k' => ?_); simp only [ze, reduceIte, Nat.reduceEqDiff]; refine k' _ _ ?_; clear k' K'))
    all_goals first | (refine S.y rfl rfl rfl rfl fun K' k' => ?_; simp only [zz, reduceIte, Nat.reduceEqDiff, Nat.reduceLT, Nat.reduceLeDiff, Nat.reduceAdd, reduceCtorEq, Nat.reduceMul, encEv]; refine S.bool fun b a11 => ?_; cases b <;> (try (exfalso; first | exact Bool.noConfusion a11 | (have h := of_decide_eq_true a11; omega) | (have h := of_decide_eq_false a11; omega))) <;> (refine k' _ _ ?_; clear k' K')) | ((first | refine S.x rfl rfl rfl rfl fun K' k' => ?_ | refine S.u rfl rfl rfl rfl fun K' k' => ?_); simp only [ze, reduceIte, Nat.reduceEqDiff]; (refine k' _ _ ?_; clear k' K'))
    all_goals iterate 2 (refine S.g rfl rfl fun K' k' => ?_; simp only [zz, reduceIte, Nat.reduceEqDiff, Nat.reduceAdd, encEv]; refine k' _ _ ?_; clear k' K')
    all_goals iterate 3 (first | (refine S.y rfl rfl rfl rfl fun K' k' => ?_; simp only [zz, reduceIte, Nat.reduceEqDiff, Nat.reduceLT, Nat.reduceLeDiff, Nat.reduceAdd, reduceCtorEq, Nat.reduceMul, of36_0, of33_1, ok2, sz2, ag2, encEv]; refine k' _ _ ?_; clear k' K') | ((first | refine S.x rfl rfl rfl rfl fun K' k' => ?_ | refine S.u rfl rfl rfl rfl fun K' k' => ?_); simp only [ze, reduceIte, Nat.reduceEqDiff]; refine k' _ _ ?_; clear k' K'))
    all_goals first | (refine S.y rfl rfl rfl rfl fun K' k' => ?_; simp only [zz, reduceIte, Nat.reduceEqDiff, Nat.reduceLT, Nat.reduceLeDiff, Nat.reduceAdd, reduceCtorEq, Nat.reduceMul, encEv]; refine PCalls.eqto (time_spec _) ?_; refine S.bool fun b a17 => ?_; cases b <;> (try (exfalso; first | exact Bool.noConfusion a17 | (have h := of_decide_eq_true a17; omega) | (have h := of_decide_eq_false a17; omega))) <;> (refine k' _ _ ?_; clear k' K')) | ((first | refine S.x rfl rfl rfl rfl fun K' k' => ?_ | refine S.u rfl rfl rfl rfl fun K' k' => ?_); simp only [ze, reduceIte, Nat.reduceEqDiff]; (refine k' _ _ ?_; clear k' K'))
    all_goals (first | (refine S.y rfl rfl rfl rfl fun K' k' => ?_; simp only [zz, reduceIte, Nat.reduceEqDiff, Nat.reduceAdd, encEv]; refine k' _ _ ?_; clear k' K') | ((first | refine S.x rfl rfl rfl rfl fun K' k' => ?_ | refine S.u rfl rfl rfl rfl fun K' k' => ?_); simp only [ze, reduceIte, Nat.reduceEqDiff]; refine k' _ _ ?_; clear k' K'))
    all_goals iterate 2 (refine S.g rfl rfl fun K' k' => ?_; simp only [zz, reduceIte, Nat.reduceEqDiff, Nat.reduceAdd, encEv]; refine k' _ _ ?_; clear k' K')
    all_goals iterate 2 (first | (refine S.y rfl rfl rfl rfl fun K' k' => ?_; simp only [zz, reduceIte, Nat.reduceEqDiff, Nat.reduceLT, Nat.reduceLeDiff, Nat.reduceAdd, reduceCtorEq, Nat.reduceMul, of36_1, ok2, sz2, ag2, encEv]; refine k' _ _ ?_; clear k' K') | ((first | refine S.x rfl rfl rfl rfl fun K' k' => ?_ | refine S.u rfl rfl rfl rfl fun K' k' => ?_); simp only [ze, reduceIte, Nat.reduceEqDiff]; refine k' _ _ ?_; clear k' K'))
    all_goals first | (refine S.y rfl rfl rfl rfl fun K' k' => ?_; simp only [zz, reduceIte, Nat.reduceEqDiff, Nat.reduceLT, Nat.reduceLeDiff, Nat.reduceAdd, reduceCtorEq, Nat.reduceMul, encEv]; refine PCalls.eqto (time_spec _) ?_; refine S.bool fun b a23 => ?_; cases b <;> (try (exfalso; first | exact Bool.noConfusion a23 | (have h := of_decide_eq_true a23; omega) | (have h := of_decide_eq_false a23; omega))) <;> (refine k' _ _ ?_; clear k' K')) | ((first | refine S.x rfl rfl rfl rfl fun K' k' => ?_ | refine S.u rfl rfl rfl rfl fun K' k' => ?_); simp only [ze, reduceIte, Nat.reduceEqDiff]; (refine k' _ _ ?_; clear k' K'))
    all_goals (first | (refine S.y rfl rfl rfl rfl fun K' k' => ?_; simp only [zz, reduceIte, Nat.reduceEqDiff, Nat.reduceAdd, encEv]; refine k' _ _ ?_; clear k' K') | ((first | refine S.x rfl rfl rfl rfl fun K' k' => ?_ | refine S.u rfl rfl rfl rfl fun K' k' => ?_); simp only [ze, reduceIte, Nat.reduceEqDiff]; refine k' _ _ ?_; clear k' K'))
    all_goals iterate 2 (refine S.g rfl rfl fun K' k' => ?_; simp only [zz, reduceIte, Nat.reduceEqDiff, Nat.reduceAdd, encEv]; refine k' _ _ ?_; clear k' K')
    all_goals iterate 2 (first | (refine S.y rfl rfl rfl rfl fun K' k' => ?_; simp only [zz, reduceIte, Nat.reduceEqDiff, Nat.reduceLT, Nat.reduceLeDiff, Nat.reduceAdd, reduceCtorEq, Nat.reduceMul, of36_2, ok9, sz9, ag9, encEv]; refine k' _ _ ?_; clear k' K') | ((first | refine S.x rfl rfl rfl rfl fun K' k' => ?_ | refine S.u rfl rfl rfl rfl fun K' k' => ?_); simp only [ze, reduceIte, Nat.reduceEqDiff]; refine k' _ _ ?_; clear k' K'))
    all_goals first | (refine S.y rfl rfl rfl rfl fun K' k' => ?_; simp only [zz, reduceIte, Nat.reduceEqDiff, Nat.reduceLT, Nat.reduceLeDiff, Nat.reduceAdd, reduceCtorEq, Nat.reduceMul, encEv]; refine PCalls.eqto (name_spec _ (by assumption)) ?_ <;> (refine k' _ _ ?_; clear k' K')) | ((first | refine S.x rfl rfl rfl rfl fun K' k' => ?_ | refine S.u rfl rfl rfl rfl fun K' k' => ?_); simp only [ze, reduceIte, Nat.reduceEqDiff]; (refine k' _ _ ?_; clear k' K'))
    all_goals (first | (refine S.y rfl rfl rfl rfl fun K' k' => ?_; simp only [zz, reduceIte, Nat.reduceEqDiff, Nat.reduceAdd, encEv]; refine k' _ _ ?_; clear k' K') | ((first | refine S.x rfl rfl rfl rfl fun K' k' => ?_ | refine S.u rfl rfl rfl rfl fun K' k' => ?_); simp only [ze, reduceIte, Nat.reduceEqDiff]; refine k' _ _ ?_; clear k' K'))
    all_goals (refine S.g rfl rfl fun K' k' => ?_; simp only [zz, reduceIte, Nat.reduceEqDiff, Nat.reduceAdd, encEv]; refine k' _ _ ?_; clear k' K')
    all_goals refine S.nil ?_
    all_goals simp only [ze, reduceIte, Nat.reduceEqDiff, Nat.reduceLT, Nat.reduceLeDiff, Nat.reduceAdd, reduceCtorEq, Nat.reduceMul, encEv]
    all_goals simp_all
    have k1 : ¬ e.src < 0 := by omega
    have k2 : ¬ 16 ≤ e.src := by omega
    simp [k1, k2]
  rintro s σ ⟨rfl, l1, e1, e31⟩
  rw [encEv] at l1
  refine AW.cond (b := _) e31 (fun hc => ?_) (fun hc => ?_)
  · refine AW.seq_k fun K3 h3 => ?_
    all_goals refine AW.reg0 ?_
    all_goals (refine S.g rfl rfl fun K' k' => ?_; simp only [zz, reduceIte, Nat.reduceEqDiff, Nat.reduceAdd]; refine k' _ _ ?_; clear k' K')
    all_goals refine S.nil ?_
    all_goals simp only [ze, reduceIte, Nat.reduceEqDiff, Nat.reduceLT, Nat.reduceLeDiff, Nat.reduceAdd, reduceCtorEq, Nat.reduceMul]
    all_goals first | refine h3 _ _ ?_ | refine h2 _ _ ?_ | refine h1 _ _ ?_
    refine AW.ret ?_
    all_goals simp only [zs, reduceIte, Nat.reduceEqDiff, Nat.reduceLT, Nat.reduceLeDiff, Nat.reduceAdd, reduceCtorEq, Nat.reduceMul]
    have := of_decide_eq_true hc
    simp [evErr, this]
  · refine AW.skip ?_
    all_goals simp only [zs, reduceIte, Nat.reduceEqDiff, Nat.reduceLT, Nat.reduceLeDiff, Nat.reduceAdd, reduceCtorEq, Nat.reduceMul]
    all_goals first | refine h3 _ _ ?_ | refine h2 _ _ ?_ | refine h1 _ _ ?_
    refine AW.seq_k fun K4 h4 => ?_
    all_goals refine AW.reg0 ?_
    all_goals iterate 2 (refine S.g rfl rfl fun K' k' => ?_; simp only [zz, reduceIte, Nat.reduceEqDiff, Nat.reduceLT, Nat.reduceLeDiff, Nat.reduceAdd, reduceCtorEq, Nat.reduceMul, of36_3, ok34, sz34, ag34, e1, l1]; refine k' _ _ ?_; clear k' K')
    all_goals (refine S.g rfl rfl fun K' k' => ?_; simp only [zz, reduceIte, Nat.reduceEqDiff, Nat.reduceLT, Nat.reduceLeDiff, Nat.reduceAdd, reduceCtorEq, Nat.reduceMul, e1, l1]; refine PCalls.eqto (check_attrs _ (by assumption)) ?_ <;> (refine k' _ _ ?_; clear k' K'))
    all_goals (refine S.g rfl rfl fun K' k' => ?_; simp only [zz, reduceIte, Nat.reduceEqDiff, Nat.reduceAdd, e1, l1]; refine k' _ _ ?_; clear k' K')
    all_goals refine S.nil ?_
    all_goals simp only [ze, reduceIte, Nat.reduceEqDiff, Nat.reduceLT, Nat.reduceLeDiff, Nat.reduceAdd, reduceCtorEq, Nat.reduceMul, e1, l1]
    all_goals first | refine h4 _ _ ?_ | refine h3 _ _ ?_ | refine h2 _ _ ?_ | refine h1 _ _ ?_
    refine AW.ret ?_
    all_goals simp only [zs, reduceIte, Nat.reduceEqDiff, Nat.reduceLT, Nat.reduceLeDiff, Nat.reduceAdd, reduceCtorEq, Nat.reduceMul]
    have := of_decide_eq_false hc
    simp only [evErr, if_neg this]
end Go.Abs.M
