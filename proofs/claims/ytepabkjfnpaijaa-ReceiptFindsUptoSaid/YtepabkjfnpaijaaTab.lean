/- Closed facts of the program's tables: sizes, zero values, types. Printed by gentab.py. -/
import Derived.Test.YtepabkjfnpaijaaProg
import Derived.Test.YtepabkjfnpaijaaEng2
import Derived.KernelRfl
set_option maxRecDepth 100000
namespace Go.Proofs.Ytepabkjfnpaijaa
open Go Go.Ew
theorem cz1 : Try.prog.cellsOf 1 = 1 := by kernel_rfl
theorem by1 : Try.prog.bytesOf 1 = 8 := by kernel_rfl
attribute [go_sem] cz1 by1 Try.underlying1
theorem zr1 : zeroOf Try.prog 1 = some ([.raw .nilFunc]) := by kernel_rfl
attribute [go_sem] zr1
theorem cz2 : Try.prog.cellsOf 2 = 1 := by kernel_rfl
theorem by2 : Try.prog.bytesOf 2 = 8 := by kernel_rfl
attribute [go_sem] cz2 by2 Try.underlying2
theorem zr2 : zeroOf Try.prog 2 = some ([.int .i64 0]) := by kernel_rfl
attribute [go_sem] zr2
theorem cz3 : Try.prog.cellsOf 3 = 1 := by kernel_rfl
theorem by3 : Try.prog.bytesOf 3 = 8 := by kernel_rfl
attribute [go_sem] cz3 by3 Try.underlying3
theorem zr3 : zeroOf Try.prog 3 = some ([.int .i64 0]) := by kernel_rfl
attribute [go_sem] zr3
theorem cz4 : Try.prog.cellsOf 4 = 1 := by kernel_rfl
theorem by4 : Try.prog.bytesOf 4 = 1 := by kernel_rfl
attribute [go_sem] cz4 by4 Try.underlying4
theorem zr4 : zeroOf Try.prog 4 = some ([.bool false]) := by kernel_rfl
attribute [go_sem] zr4
theorem cz5 : Try.prog.cellsOf 5 = 1 := by kernel_rfl
theorem by5 : Try.prog.bytesOf 5 = 1 := by kernel_rfl
attribute [go_sem] cz5 by5 Try.underlying5
theorem zr5 : zeroOf Try.prog 5 = some ([.int .u8 0]) := by kernel_rfl
attribute [go_sem] zr5
theorem cz6 : Try.prog.cellsOf 6 = 1 := by kernel_rfl
theorem by6 : Try.prog.bytesOf 6 = 1 := by kernel_rfl
attribute [go_sem] cz6 by6 Try.underlying6
theorem zr6 : zeroOf Try.prog 6 = some ([.int .u8 0]) := by kernel_rfl
attribute [go_sem] zr6
theorem cz7 : Try.prog.cellsOf 7 = 4 := by kernel_rfl
theorem by7 : Try.prog.bytesOf 7 = 24 := by kernel_rfl
attribute [go_sem] cz7 by7 Try.underlying7
attribute [go_sem] Try.eqGuardType7
theorem zr7 : zeroOf Try.prog 7 = some ([.int .i64 0, .int .i64 0, .bool false, .int .u8 0]) := by kernel_rfl
attribute [go_sem] zr7
theorem cz8 : Try.prog.cellsOf 8 = 4 := by kernel_rfl
theorem by8 : Try.prog.bytesOf 8 = 24 := by kernel_rfl
attribute [go_sem] cz8 by8 Try.underlying8
attribute [go_sem] Try.eqGuardType8
theorem zr8 : zeroOf Try.prog 8 = some ([.int .i64 0, .int .i64 0, .bool false, .int .u8 0]) := by kernel_rfl
attribute [go_sem] zr8
theorem cz9 : Try.prog.cellsOf 9 = 1 := by kernel_rfl
theorem by9 : Try.prog.bytesOf 9 = 16 := by kernel_rfl
attribute [go_sem] cz9 by9 Try.underlying9
theorem zr9 : zeroOf Try.prog 9 = some ([.str ⟨#[]⟩]) := by kernel_rfl
attribute [go_sem] zr9
theorem cz10 : Try.prog.cellsOf 10 = 1 := by kernel_rfl
theorem by10 : Try.prog.bytesOf 10 = 16 := by kernel_rfl
attribute [go_sem] cz10 by10 Try.underlying10
theorem zr10 : zeroOf Try.prog 10 = some ([.str ⟨#[]⟩]) := by kernel_rfl
attribute [go_sem] zr10
theorem cz11 : Try.prog.cellsOf 11 = 1 := by kernel_rfl
theorem by11 : Try.prog.bytesOf 11 = 16 := by kernel_rfl
attribute [go_sem] cz11 by11 Try.underlying11
theorem zr11 : zeroOf Try.prog 11 = some ([.str ⟨#[]⟩]) := by kernel_rfl
attribute [go_sem] zr11
theorem cz12 : Try.prog.cellsOf 12 = 1 := by kernel_rfl
theorem by12 : Try.prog.bytesOf 12 = 8 := by kernel_rfl
attribute [go_sem] cz12 by12 Try.underlying12
theorem zr12 : zeroOf Try.prog 12 = some ([.int .u64 0]) := by kernel_rfl
attribute [go_sem] zr12
theorem cz13 : Try.prog.cellsOf 13 = 2 := by kernel_rfl
theorem by13 : Try.prog.bytesOf 13 = 24 := by kernel_rfl
attribute [go_sem] cz13 by13 Try.underlying13
attribute [go_sem] Try.eqGuardType13
theorem zr13 : zeroOf Try.prog 13 = some ([.str ⟨#[]⟩, .int .u64 0]) := by kernel_rfl
attribute [go_sem] zr13
theorem cz14 : Try.prog.cellsOf 14 = 2 := by kernel_rfl
theorem by14 : Try.prog.bytesOf 14 = 24 := by kernel_rfl
attribute [go_sem] cz14 by14 Try.underlying14
attribute [go_sem] Try.eqGuardType14
theorem zr14 : zeroOf Try.prog 14 = some ([.str ⟨#[]⟩, .int .u64 0]) := by kernel_rfl
attribute [go_sem] zr14
theorem cz15 : Try.prog.cellsOf 15 = 1 := by kernel_rfl
theorem by15 : Try.prog.bytesOf 15 = 8 := by kernel_rfl
attribute [go_sem] cz15 by15 Try.underlying15
theorem zr15 : zeroOf Try.prog 15 = some ([.raw (.pointer none)]) := by kernel_rfl
attribute [go_sem] zr15
theorem cz16 : Try.prog.cellsOf 16 = 1 := by kernel_rfl
theorem by16 : Try.prog.bytesOf 16 = 8 := by kernel_rfl
attribute [go_sem] cz16 by16 Try.underlying16
theorem zr16 : zeroOf Try.prog 16 = some ([.raw (.pointer none)]) := by kernel_rfl
attribute [go_sem] zr16
theorem cz17 : Try.prog.cellsOf 17 = 1 := by kernel_rfl
theorem by17 : Try.prog.bytesOf 17 = 8 := by kernel_rfl
attribute [go_sem] cz17 by17 Try.underlying17
theorem zr17 : zeroOf Try.prog 17 = some ([.raw (.pointer none)]) := by kernel_rfl
attribute [go_sem] zr17
theorem cz18 : Try.prog.cellsOf 18 = 1 := by kernel_rfl
theorem by18 : Try.prog.bytesOf 18 = 8 := by kernel_rfl
attribute [go_sem] cz18 by18 Try.underlying18
attribute [go_sem] Try.eqGuardType18
theorem zr18 : zeroOf Try.prog 18 = some ([.raw (.pointer none)]) := by kernel_rfl
attribute [go_sem] zr18
theorem cz19 : Try.prog.cellsOf 19 = 1 := by kernel_rfl
theorem by19 : Try.prog.bytesOf 19 = 8 := by kernel_rfl
attribute [go_sem] cz19 by19 Try.underlying19
attribute [go_sem] Try.eqGuardType19
theorem zr19 : zeroOf Try.prog 19 = some ([.raw (.pointer none)]) := by kernel_rfl
attribute [go_sem] zr19
theorem cz20 : Try.prog.cellsOf 20 = 1 := by kernel_rfl
theorem by20 : Try.prog.bytesOf 20 = 16 := by kernel_rfl
attribute [go_sem] cz20 by20 Try.underlying20
theorem zr20 : zeroOf Try.prog 20 = some ([.raw .nilIface]) := by kernel_rfl
attribute [go_sem] zr20
theorem cz21 : Try.prog.cellsOf 21 = 1 := by kernel_rfl
theorem by21 : Try.prog.bytesOf 21 = 4 := by kernel_rfl
attribute [go_sem] cz21 by21 Try.underlying21
theorem zr21 : zeroOf Try.prog 21 = some ([.int .i32 0]) := by kernel_rfl
attribute [go_sem] zr21
theorem cz22 : Try.prog.cellsOf 22 = 1 := by kernel_rfl
theorem by22 : Try.prog.bytesOf 22 = 24 := by kernel_rfl
attribute [go_sem] cz22 by22 Try.underlying22
theorem zr22 : zeroOf Try.prog 22 = some ([.raw (.slice none 0 0)]) := by kernel_rfl
attribute [go_sem] zr22
theorem cz23 : Try.prog.cellsOf 23 = 1 := by kernel_rfl
theorem by23 : Try.prog.bytesOf 23 = 24 := by kernel_rfl
attribute [go_sem] cz23 by23 Try.underlying23
theorem zr23 : zeroOf Try.prog 23 = some ([.raw (.slice none 0 0)]) := by kernel_rfl
attribute [go_sem] zr23
theorem cz24 : Try.prog.cellsOf 24 = 1 := by kernel_rfl
theorem by24 : Try.prog.bytesOf 24 = 8 := by kernel_rfl
attribute [go_sem] cz24 by24 Try.underlying24
theorem zr24 : zeroOf Try.prog 24 = some ([.raw .nilFunc]) := by kernel_rfl
attribute [go_sem] zr24
theorem cz25 : Try.prog.cellsOf 25 = 1 := by kernel_rfl
theorem by25 : Try.prog.bytesOf 25 = 8 := by kernel_rfl
attribute [go_sem] cz25 by25 Try.underlying25
theorem zr25 : zeroOf Try.prog 25 = some ([.raw .nilFunc]) := by kernel_rfl
attribute [go_sem] zr25
theorem cz26 : Try.prog.cellsOf 26 = 256 := by kernel_rfl
theorem by26 : Try.prog.bytesOf 26 = 256 := by kernel_rfl
attribute [go_sem] cz26 by26 Try.underlying26
attribute [go_sem] Try.eqGuardType26
theorem zr26 : zeroOf Try.prog 26 = some (ints .u8 (fun _ => 0) 256) := by kernel_rfl
attribute [go_sem] zr26
theorem cz27 : Try.prog.cellsOf 27 = 256 := by kernel_rfl
theorem by27 : Try.prog.bytesOf 27 = 256 := by kernel_rfl
attribute [go_sem] cz27 by27 Try.underlying27
attribute [go_sem] Try.eqGuardType27
theorem zr27 : zeroOf Try.prog 27 = some (ints .u8 (fun _ => 0) 256) := by kernel_rfl
attribute [go_sem] zr27
theorem cz28 : Try.prog.cellsOf 28 = 1 := by kernel_rfl
theorem by28 : Try.prog.bytesOf 28 = 8 := by kernel_rfl
attribute [go_sem] cz28 by28 Try.underlying28
theorem zr28 : zeroOf Try.prog 28 = some ([.raw .nilFunc]) := by kernel_rfl
attribute [go_sem] zr28
theorem cz29 : Try.prog.cellsOf 29 = 1 := by kernel_rfl
theorem by29 : Try.prog.bytesOf 29 = 8 := by kernel_rfl
attribute [go_sem] cz29 by29 Try.underlying29
theorem zr29 : zeroOf Try.prog 29 = some ([.raw .nilFunc]) := by kernel_rfl
attribute [go_sem] zr29
theorem cz30 : Try.prog.cellsOf 30 = 1 := by kernel_rfl
theorem by30 : Try.prog.bytesOf 30 = 8 := by kernel_rfl
attribute [go_sem] cz30 by30 Try.underlying30
theorem zr30 : zeroOf Try.prog 30 = some ([.raw .nilFunc]) := by kernel_rfl
attribute [go_sem] zr30
theorem cz31 : Try.prog.cellsOf 31 = 1 := by kernel_rfl
theorem by31 : Try.prog.bytesOf 31 = 8 := by kernel_rfl
attribute [go_sem] cz31 by31 Try.underlying31
theorem zr31 : zeroOf Try.prog 31 = some ([.raw .nilFunc]) := by kernel_rfl
attribute [go_sem] zr31
theorem cz32 : Try.prog.cellsOf 32 = 20 := by kernel_rfl
theorem by32 : Try.prog.bytesOf 32 = 20 := by kernel_rfl
attribute [go_sem] cz32 by32 Try.underlying32
attribute [go_sem] Try.eqGuardType32
theorem zr32 : zeroOf Try.prog 32 = some (ints .u8 (fun _ => 0) 20) := by kernel_rfl
attribute [go_sem] zr32
theorem cz33 : Try.prog.cellsOf 33 = 20 := by kernel_rfl
theorem by33 : Try.prog.bytesOf 33 = 20 := by kernel_rfl
attribute [go_sem] cz33 by33 Try.underlying33
attribute [go_sem] Try.eqGuardType33
theorem zr33 : zeroOf Try.prog 33 = some (ints .u8 (fun _ => 0) 20) := by kernel_rfl
attribute [go_sem] zr33
theorem cz34 : Try.prog.cellsOf 34 = 1 := by kernel_rfl
theorem by34 : Try.prog.bytesOf 34 = 24 := by kernel_rfl
attribute [go_sem] cz34 by34 Try.underlying34
theorem zr34 : zeroOf Try.prog 34 = some ([.raw (.slice none 0 0)]) := by kernel_rfl
attribute [go_sem] zr34
theorem cz35 : Try.prog.cellsOf 35 = 22 := by kernel_rfl
theorem by35 : Try.prog.bytesOf 35 = 72 := by kernel_rfl
attribute [go_sem] cz35 by35 Try.underlying35
attribute [go_sem] Try.eqGuardType35
theorem zr35 : zeroOf Try.prog 35 = some ([.int .u8 0, .int .u8 0, .int .u8 0, .int .u8 0, .int .u8 0, .int .u8 0, .int .u8 0, .int .u8 0, .int .u8 0, .int .u8 0, .int .u8 0, .int .u8 0, .int .u8 0, .int .u8 0, .int .u8 0, .int .u8 0, .int .u8 0, .int .u8 0, .int .u8 0, .int .u8 0, .raw (.slice none 0 0), .raw (.slice none 0 0)]) := by kernel_rfl
attribute [go_sem] zr35
theorem cz36 : Try.prog.cellsOf 36 = 22 := by kernel_rfl
theorem by36 : Try.prog.bytesOf 36 = 72 := by kernel_rfl
attribute [go_sem] cz36 by36 Try.underlying36
attribute [go_sem] Try.eqGuardType36
theorem zr36 : zeroOf Try.prog 36 = some ([.int .u8 0, .int .u8 0, .int .u8 0, .int .u8 0, .int .u8 0, .int .u8 0, .int .u8 0, .int .u8 0, .int .u8 0, .int .u8 0, .int .u8 0, .int .u8 0, .int .u8 0, .int .u8 0, .int .u8 0, .int .u8 0, .int .u8 0, .int .u8 0, .int .u8 0, .int .u8 0, .raw (.slice none 0 0), .raw (.slice none 0 0)]) := by kernel_rfl
attribute [go_sem] zr36
theorem cz37 : Try.prog.cellsOf 37 = 32 := by kernel_rfl
theorem by37 : Try.prog.bytesOf 37 = 32 := by kernel_rfl
attribute [go_sem] cz37 by37 Try.underlying37
attribute [go_sem] Try.eqGuardType37
theorem zr37 : zeroOf Try.prog 37 = some (ints .u8 (fun _ => 0) 32) := by kernel_rfl
attribute [go_sem] zr37
theorem cz38 : Try.prog.cellsOf 38 = 32 := by kernel_rfl
theorem by38 : Try.prog.bytesOf 38 = 32 := by kernel_rfl
attribute [go_sem] cz38 by38 Try.underlying38
attribute [go_sem] Try.eqGuardType38
theorem zr38 : zeroOf Try.prog 38 = some (ints .u8 (fun _ => 0) 32) := by kernel_rfl
attribute [go_sem] zr38
theorem cz39 : Try.prog.cellsOf 39 = 1 := by kernel_rfl
theorem by39 : Try.prog.bytesOf 39 = 8 := by kernel_rfl
attribute [go_sem] cz39 by39 Try.underlying39
theorem zr39 : zeroOf Try.prog 39 = some ([.raw .nilFunc]) := by kernel_rfl
attribute [go_sem] zr39
theorem cz40 : Try.prog.cellsOf 40 = 1 := by kernel_rfl
theorem by40 : Try.prog.bytesOf 40 = 24 := by kernel_rfl
attribute [go_sem] cz40 by40 Try.underlying40
theorem zr40 : zeroOf Try.prog 40 = some ([.raw (.slice none 0 0)]) := by kernel_rfl
attribute [go_sem] zr40
theorem cz41 : Try.prog.cellsOf 41 = 1 := by kernel_rfl
theorem by41 : Try.prog.bytesOf 41 = 24 := by kernel_rfl
attribute [go_sem] cz41 by41 Try.underlying41
theorem zr41 : zeroOf Try.prog 41 = some ([.raw (.slice none 0 0)]) := by kernel_rfl
attribute [go_sem] zr41
theorem cz42 : Try.prog.cellsOf 42 = 1 := by kernel_rfl
theorem by42 : Try.prog.bytesOf 42 = 24 := by kernel_rfl
attribute [go_sem] cz42 by42 Try.underlying42
theorem zr42 : zeroOf Try.prog 42 = some ([.raw (.slice none 0 0)]) := by kernel_rfl
attribute [go_sem] zr42
theorem cz43 : Try.prog.cellsOf 43 = 1 := by kernel_rfl
theorem by43 : Try.prog.bytesOf 43 = 8 := by kernel_rfl
attribute [go_sem] cz43 by43 Try.underlying43
theorem zr43 : zeroOf Try.prog 43 = some ([.int .u64 0]) := by kernel_rfl
attribute [go_sem] zr43
theorem cz44 : Try.prog.cellsOf 44 = 260 := by kernel_rfl
theorem by44 : Try.prog.bytesOf 44 = 304 := by kernel_rfl
attribute [go_sem] cz44 by44 Try.underlying44
attribute [go_sem] Try.eqGuardType44
theorem zr44 : zeroOf Try.prog 44 = some ([.int .u8 0, .int .i64 0, .int .u64 0, .int .u8 0, .int .u8 0, .int .u8 0, .int .u8 0, .int .u8 0, .int .u8 0, .int .u8 0, .int .u8 0, .int .u8 0, .int .u8 0, .int .u8 0, .int .u8 0, .int .u8 0, .int .u8 0, .int .u8 0, .int .u8 0, .int .u8 0, .int .u8 0, .int .u8 0, .int .u8 0, .int .u8 0, .int .u8 0, .int .u8 0, .int .u8 0, .int .u8 0, .int .u8 0, .int .u8 0, .int .u8 0, .int .u8 0, .int .u8 0, .int .u8 0, .int .u8 0, .int .u8 0, .int .u8 0, .int .u8 0, .int .u8 0, .int .u8 0, .int .u8 0, .int .u8 0, .int .u8 0, .int .u8 0, .int .u8 0, .int .u8 0, .int .u8 0, .int .u8 0, .int .u8 0, .int .u8 0, .int .u8 0, .int .u8 0, .int .u8 0, .int .u8 0, .int .u8 0, .int .u8 0, .int .u8 0, .int .u8 0, .int .u8 0, .int .u8 0, .int .u8 0, .int .u8 0, .int .u8 0, .int .u8 0, .int .u8 0, .int .u8 0, .int .u8 0, .int .u8 0, .int .u8 0, .int .u8 0, .int .u8 0, .int .u8 0, .int .u8 0, .int .u8 0, .int .u8 0, .int .u8 0, .int .u8 0, .int .u8 0, .int .u8 0, .int .u8 0, .int .u8 0, .int .u8 0, .int .u8 0, .int .u8 0, .int .u8 0, .int .u8 0, .int .u8 0, .int .u8 0, .int .u8 0, .int .u8 0, .int .u8 0, .int .u8 0, .int .u8 0, .int .u8 0, .int .u8 0, .int .u8 0, .int .u8 0, .int .u8 0, .int .u8 0, .int .u8 0, .int .u8 0, .int .u8 0, .int .u8 0, .int .u8 0, .int .u8 0, .int .u8 0, .int .u8 0, .int .u8 0, .int .u8 0, .int .u8 0, .int .u8 0, .int .u8 0, .int .u8 0, .int .u8 0, .int .u8 0, .int .u8 0, .int .u8 0, .int .u8 0, .int .u8 0, .int .u8 0, .int .u8 0, .int .u8 0, .int .u8 0, .int .u8 0, .int .u8 0, .int .u8 0, .int .u8 0, .int .u8 0, .int .u8 0, .int .u8 0, .int .u8 0, .int .u8 0, .int .u8 0, .int .u8 0, .int .u8 0, .int .u8 0, .int .u8 0, .int .u8 0, .int .u8 0, .int .u8 0, .int .u8 0, .int .u8 0, .int .u8 0, .int .u8 0, .int .u8 0, .int .u8 0, .int .u8 0, .int .u8 0, .int .u8 0, .int .u8 0, .int .u8 0, .int .u8 0, .int .u8 0, .int .u8 0, .int .u8 0, .int .u8 0, .int .u8 0, .int .u8 0, .int .u8 0, .int .u8 0, .int .u8 0, .int .u8 0, .int .u8 0, .int .u8 0, .int .u8 0, .int .u8 0, .int .u8 0, .int .u8 0, .int .u8 0, .int .u8 0, .int .u8 0, .int .u8 0, .int .u8 0, .int .u8 0, .int .u8 0, .int .u8 0, .int .u8 0, .int .u8 0, .int .u8 0, .int .u8 0, .int .u8 0, .int .u8 0, .int .u8 0, .int .u8 0, .int .u8 0, .int .u8 0, .int .u8 0, .int .u8 0, .int .u8 0, .int .u8 0, .int .u8 0, .int .u8 0, .int .u8 0, .int .u8 0, .int .u8 0, .int .u8 0, .int .u8 0, .int .u8 0, .int .u8 0, .int .u8 0, .int .u8 0, .int .u8 0, .int .u8 0, .int .u8 0, .int .u8 0, .int .u8 0, .int .u8 0, .int .u8 0, .int .u8 0, .int .u8 0, .int .u8 0, .int .u8 0, .int .u8 0, .int .u8 0, .int .u8 0, .int .u8 0, .int .u8 0, .int .u8 0, .int .u8 0, .int .u8 0, .int .u8 0, .int .u8 0, .int .u8 0, .int .u8 0, .int .u8 0, .int .u8 0, .int .u8 0, .int .u8 0, .int .u8 0, .int .u8 0, .int .u8 0, .int .u8 0, .int .u8 0, .int .u8 0, .int .u8 0, .int .u8 0, .int .u8 0, .int .u8 0, .int .u8 0, .int .u8 0, .int .u8 0, .int .u8 0, .int .u8 0, .int .u8 0, .int .u8 0, .int .u8 0, .int .u8 0, .int .u8 0, .int .u8 0, .int .u8 0, .int .u8 0, .int .u8 0, .int .u8 0, .int .u8 0, .int .u8 0, .int .u8 0, .int .u8 0, .int .u8 0, .int .u8 0, .raw (.slice none 0 0)]) := by kernel_rfl
attribute [go_sem] zr44
theorem cz45 : Try.prog.cellsOf 45 = 260 := by kernel_rfl
theorem by45 : Try.prog.bytesOf 45 = 304 := by kernel_rfl
attribute [go_sem] cz45 by45 Try.underlying45
attribute [go_sem] Try.eqGuardType45
theorem zr45 : zeroOf Try.prog 45 = some ([.int .u8 0, .int .i64 0, .int .u64 0, .int .u8 0, .int .u8 0, .int .u8 0, .int .u8 0, .int .u8 0, .int .u8 0, .int .u8 0, .int .u8 0, .int .u8 0, .int .u8 0, .int .u8 0, .int .u8 0, .int .u8 0, .int .u8 0, .int .u8 0, .int .u8 0, .int .u8 0, .int .u8 0, .int .u8 0, .int .u8 0, .int .u8 0, .int .u8 0, .int .u8 0, .int .u8 0, .int .u8 0, .int .u8 0, .int .u8 0, .int .u8 0, .int .u8 0, .int .u8 0, .int .u8 0, .int .u8 0, .int .u8 0, .int .u8 0, .int .u8 0, .int .u8 0, .int .u8 0, .int .u8 0, .int .u8 0, .int .u8 0, .int .u8 0, .int .u8 0, .int .u8 0, .int .u8 0, .int .u8 0, .int .u8 0, .int .u8 0, .int .u8 0, .int .u8 0, .int .u8 0, .int .u8 0, .int .u8 0, .int .u8 0, .int .u8 0, .int .u8 0, .int .u8 0, .int .u8 0, .int .u8 0, .int .u8 0, .int .u8 0, .int .u8 0, .int .u8 0, .int .u8 0, .int .u8 0, .int .u8 0, .int .u8 0, .int .u8 0, .int .u8 0, .int .u8 0, .int .u8 0, .int .u8 0, .int .u8 0, .int .u8 0, .int .u8 0, .int .u8 0, .int .u8 0, .int .u8 0, .int .u8 0, .int .u8 0, .int .u8 0, .int .u8 0, .int .u8 0, .int .u8 0, .int .u8 0, .int .u8 0, .int .u8 0, .int .u8 0, .int .u8 0, .int .u8 0, .int .u8 0, .int .u8 0, .int .u8 0, .int .u8 0, .int .u8 0, .int .u8 0, .int .u8 0, .int .u8 0, .int .u8 0, .int .u8 0, .int .u8 0, .int .u8 0, .int .u8 0, .int .u8 0, .int .u8 0, .int .u8 0, .int .u8 0, .int .u8 0, .int .u8 0, .int .u8 0, .int .u8 0, .int .u8 0, .int .u8 0, .int .u8 0, .int .u8 0, .int .u8 0, .int .u8 0, .int .u8 0, .int .u8 0, .int .u8 0, .int .u8 0, .int .u8 0, .int .u8 0, .int .u8 0, .int .u8 0, .int .u8 0, .int .u8 0, .int .u8 0, .int .u8 0, .int .u8 0, .int .u8 0, .int .u8 0, .int .u8 0, .int .u8 0, .int .u8 0, .int .u8 0, .int .u8 0, .int .u8 0, .int .u8 0, .int .u8 0, .int .u8 0, .int .u8 0, .int .u8 0, .int .u8 0, .int .u8 0, .int .u8 0, .int .u8 0, .int .u8 0, .int .u8 0, .int .u8 0, .int .u8 0, .int .u8 0, .int .u8 0, .int .u8 0, .int .u8 0, .int .u8 0, .int .u8 0, .int .u8 0, .int .u8 0, .int .u8 0, .int .u8 0, .int .u8 0, .int .u8 0, .int .u8 0, .int .u8 0, .int .u8 0, .int .u8 0, .int .u8 0, .int .u8 0, .int .u8 0, .int .u8 0, .int .u8 0, .int .u8 0, .int .u8 0, .int .u8 0, .int .u8 0, .int .u8 0, .int .u8 0, .int .u8 0, .int .u8 0, .int .u8 0, .int .u8 0, .int .u8 0, .int .u8 0, .int .u8 0, .int .u8 0, .int .u8 0, .int .u8 0, .int .u8 0, .int .u8 0, .int .u8 0, .int .u8 0, .int .u8 0, .int .u8 0, .int .u8 0, .int .u8 0, .int .u8 0, .int .u8 0, .int .u8 0, .int .u8 0, .int .u8 0, .int .u8 0, .int .u8 0, .int .u8 0, .int .u8 0, .int .u8 0, .int .u8 0, .int .u8 0, .int .u8 0, .int .u8 0, .int .u8 0, .int .u8 0, .int .u8 0, .int .u8 0, .int .u8 0, .int .u8 0, .int .u8 0, .int .u8 0, .int .u8 0, .int .u8 0, .int .u8 0, .int .u8 0, .int .u8 0, .int .u8 0, .int .u8 0, .int .u8 0, .int .u8 0, .int .u8 0, .int .u8 0, .int .u8 0, .int .u8 0, .int .u8 0, .int .u8 0, .int .u8 0, .int .u8 0, .int .u8 0, .int .u8 0, .int .u8 0, .int .u8 0, .int .u8 0, .int .u8 0, .int .u8 0, .int .u8 0, .int .u8 0, .int .u8 0, .int .u8 0, .int .u8 0, .int .u8 0, .int .u8 0, .int .u8 0, .int .u8 0, .int .u8 0, .int .u8 0, .int .u8 0, .int .u8 0, .int .u8 0, .int .u8 0, .raw (.slice none 0 0)]) := by kernel_rfl
attribute [go_sem] zr45
theorem cz46 : Try.prog.cellsOf 46 = 1 := by kernel_rfl
theorem by46 : Try.prog.bytesOf 46 = 8 := by kernel_rfl
attribute [go_sem] cz46 by46 Try.underlying46
theorem zr46 : zeroOf Try.prog 46 = some ([.raw .nilFunc]) := by kernel_rfl
attribute [go_sem] zr46
theorem cz47 : Try.prog.cellsOf 47 = 1 := by kernel_rfl
theorem by47 : Try.prog.bytesOf 47 = 8 := by kernel_rfl
attribute [go_sem] cz47 by47 Try.underlying47
theorem zr47 : zeroOf Try.prog 47 = some ([.raw .nilFunc]) := by kernel_rfl
attribute [go_sem] zr47
theorem cz48 : Try.prog.cellsOf 48 = 1 := by kernel_rfl
theorem by48 : Try.prog.bytesOf 48 = 8 := by kernel_rfl
attribute [go_sem] cz48 by48 Try.underlying48
theorem zr48 : zeroOf Try.prog 48 = some ([.raw .nilFunc]) := by kernel_rfl
attribute [go_sem] zr48
theorem cz49 : Try.prog.cellsOf 49 = 1 := by kernel_rfl
theorem by49 : Try.prog.bytesOf 49 = 8 := by kernel_rfl
attribute [go_sem] cz49 by49 Try.underlying49
theorem zr49 : zeroOf Try.prog 49 = some ([.int .i64 0]) := by kernel_rfl
attribute [go_sem] zr49
theorem cz51 : Try.prog.cellsOf 51 = 1 := by kernel_rfl
theorem by51 : Try.prog.bytesOf 51 = 8 := by kernel_rfl
attribute [go_sem] cz51 by51 Try.underlying51
theorem zr51 : zeroOf Try.prog 51 = some ([.raw .nilFunc]) := by kernel_rfl
attribute [go_sem] zr51
theorem cz53 : Try.prog.cellsOf 53 = 1 := by kernel_rfl
theorem by53 : Try.prog.bytesOf 53 = 8 := by kernel_rfl
attribute [go_sem] cz53 by53 Try.underlying53
theorem zr53 : zeroOf Try.prog 53 = some ([.raw .nilFunc]) := by kernel_rfl
attribute [go_sem] zr53
theorem cz55 : Try.prog.cellsOf 55 = 1 := by kernel_rfl
theorem by55 : Try.prog.bytesOf 55 = 8 := by kernel_rfl
attribute [go_sem] cz55 by55 Try.underlying55
theorem zr55 : zeroOf Try.prog 55 = some ([.raw .nilFunc]) := by kernel_rfl
attribute [go_sem] zr55
theorem cz57 : Try.prog.cellsOf 57 = 1 := by kernel_rfl
theorem by57 : Try.prog.bytesOf 57 = 8 := by kernel_rfl
attribute [go_sem] cz57 by57 Try.underlying57
theorem zr57 : zeroOf Try.prog 57 = some ([.raw .nilFunc]) := by kernel_rfl
attribute [go_sem] zr57
theorem cz58 : Try.prog.cellsOf 58 = 1 := by kernel_rfl
theorem by58 : Try.prog.bytesOf 58 = 8 := by kernel_rfl
attribute [go_sem] cz58 by58 Try.underlying58
theorem zr58 : zeroOf Try.prog 58 = some ([.raw .nilFunc]) := by kernel_rfl
attribute [go_sem] zr58
theorem cz59 : Try.prog.cellsOf 59 = 1 := by kernel_rfl
theorem by59 : Try.prog.bytesOf 59 = 8 := by kernel_rfl
attribute [go_sem] cz59 by59 Try.underlying59
theorem zr59 : zeroOf Try.prog 59 = some ([.raw .nilFunc]) := by kernel_rfl
attribute [go_sem] zr59
theorem cz60 : Try.prog.cellsOf 60 = 1 := by kernel_rfl
theorem by60 : Try.prog.bytesOf 60 = 8 := by kernel_rfl
attribute [go_sem] cz60 by60 Try.underlying60
theorem zr60 : zeroOf Try.prog 60 = some ([.raw .nilFunc]) := by kernel_rfl
attribute [go_sem] zr60
theorem cz61 : Try.prog.cellsOf 61 = 1 := by kernel_rfl
theorem by61 : Try.prog.bytesOf 61 = 8 := by kernel_rfl
attribute [go_sem] cz61 by61 Try.underlying61
theorem zr61 : zeroOf Try.prog 61 = some ([.raw .nilFunc]) := by kernel_rfl
attribute [go_sem] zr61
theorem cz62 : Try.prog.cellsOf 62 = 1 := by kernel_rfl
theorem by62 : Try.prog.bytesOf 62 = 8 := by kernel_rfl
attribute [go_sem] cz62 by62 Try.underlying62
theorem zr62 : zeroOf Try.prog 62 = some ([.raw .nilFunc]) := by kernel_rfl
attribute [go_sem] zr62
theorem cz63 : Try.prog.cellsOf 63 = 3 := by kernel_rfl
theorem by63 : Try.prog.bytesOf 63 = 24 := by kernel_rfl
attribute [go_sem] cz63 by63 Try.underlying63
attribute [go_sem] Try.eqGuardType63
theorem zr63 : zeroOf Try.prog 63 = some ([.int .i64 0, .int .i64 0, .int .i64 0]) := by kernel_rfl
attribute [go_sem] zr63
theorem cz64 : Try.prog.cellsOf 64 = 1 := by kernel_rfl
theorem by64 : Try.prog.bytesOf 64 = 8 := by kernel_rfl
attribute [go_sem] cz64 by64 Try.underlying64
theorem zr64 : zeroOf Try.prog 64 = some ([.raw .nilFunc]) := by kernel_rfl
attribute [go_sem] zr64
theorem cz65 : Try.prog.cellsOf 65 = 1 := by kernel_rfl
theorem by65 : Try.prog.bytesOf 65 = 8 := by kernel_rfl
attribute [go_sem] cz65 by65 Try.underlying65
theorem zr65 : zeroOf Try.prog 65 = some ([.raw .nilFunc]) := by kernel_rfl
attribute [go_sem] zr65
theorem cz66 : Try.prog.cellsOf 66 = 1 := by kernel_rfl
theorem by66 : Try.prog.bytesOf 66 = 8 := by kernel_rfl
attribute [go_sem] cz66 by66 Try.underlying66
theorem zr66 : zeroOf Try.prog 66 = some ([.raw (.map none)]) := by kernel_rfl
attribute [go_sem] zr66
theorem cz67 : Try.prog.cellsOf 67 = 1 := by kernel_rfl
theorem by67 : Try.prog.bytesOf 67 = 8 := by kernel_rfl
attribute [go_sem] cz67 by67 Try.underlying67
theorem zr67 : zeroOf Try.prog 67 = some ([.raw (.map none)]) := by kernel_rfl
attribute [go_sem] zr67
theorem cz68 : Try.prog.cellsOf 68 = 1 := by kernel_rfl
theorem by68 : Try.prog.bytesOf 68 = 8 := by kernel_rfl
attribute [go_sem] cz68 by68 Try.underlying68
theorem zr68 : zeroOf Try.prog 68 = some ([.raw .nilFunc]) := by kernel_rfl
attribute [go_sem] zr68
theorem cz69 : Try.prog.cellsOf 69 = 1 := by kernel_rfl
theorem by69 : Try.prog.bytesOf 69 = 24 := by kernel_rfl
attribute [go_sem] cz69 by69 Try.underlying69
theorem zr69 : zeroOf Try.prog 69 = some ([.raw (.slice none 0 0)]) := by kernel_rfl
attribute [go_sem] zr69
theorem cz70 : Try.prog.cellsOf 70 = 1 := by kernel_rfl
theorem by70 : Try.prog.bytesOf 70 = 8 := by kernel_rfl
attribute [go_sem] cz70 by70 Try.underlying70
theorem zr70 : zeroOf Try.prog 70 = some ([.raw (.map none)]) := by kernel_rfl
attribute [go_sem] zr70
theorem cz71 : Try.prog.cellsOf 71 = 1 := by kernel_rfl
theorem by71 : Try.prog.bytesOf 71 = 8 := by kernel_rfl
attribute [go_sem] cz71 by71 Try.underlying71
theorem zr71 : zeroOf Try.prog 71 = some ([.raw (.map none)]) := by kernel_rfl
attribute [go_sem] zr71
theorem cz72 : Try.prog.cellsOf 72 = 1 := by kernel_rfl
theorem by72 : Try.prog.bytesOf 72 = 8 := by kernel_rfl
attribute [go_sem] cz72 by72 Try.underlying72
theorem zr72 : zeroOf Try.prog 72 = some ([.raw .nilFunc]) := by kernel_rfl
attribute [go_sem] zr72
theorem cz73 : Try.prog.cellsOf 73 = 1 := by kernel_rfl
theorem by73 : Try.prog.bytesOf 73 = 8 := by kernel_rfl
attribute [go_sem] cz73 by73 Try.underlying73
theorem zr73 : zeroOf Try.prog 73 = some ([.raw .nilFunc]) := by kernel_rfl
attribute [go_sem] zr73
theorem cz74 : Try.prog.cellsOf 74 = 1 := by kernel_rfl
theorem by74 : Try.prog.bytesOf 74 = 8 := by kernel_rfl
attribute [go_sem] cz74 by74 Try.underlying74
theorem zr74 : zeroOf Try.prog 74 = some ([.raw .nilFunc]) := by kernel_rfl
attribute [go_sem] zr74
theorem cz75 : Try.prog.cellsOf 75 = 1 := by kernel_rfl
theorem by75 : Try.prog.bytesOf 75 = 8 := by kernel_rfl
attribute [go_sem] cz75 by75 Try.underlying75
theorem zr75 : zeroOf Try.prog 75 = some ([.raw .nilFunc]) := by kernel_rfl
attribute [go_sem] zr75
theorem cz76 : Try.prog.cellsOf 76 = 1 := by kernel_rfl
theorem by76 : Try.prog.bytesOf 76 = 8 := by kernel_rfl
attribute [go_sem] cz76 by76 Try.underlying76
theorem zr76 : zeroOf Try.prog 76 = some ([.raw .nilFunc]) := by kernel_rfl
attribute [go_sem] zr76
theorem cz77 : Try.prog.cellsOf 77 = 1 := by kernel_rfl
theorem by77 : Try.prog.bytesOf 77 = 24 := by kernel_rfl
attribute [go_sem] cz77 by77 Try.underlying77
theorem zr77 : zeroOf Try.prog 77 = some ([.raw (.slice none 0 0)]) := by kernel_rfl
attribute [go_sem] zr77
theorem cz78 : Try.prog.cellsOf 78 = 3 := by kernel_rfl
theorem by78 : Try.prog.bytesOf 78 = 56 := by kernel_rfl
attribute [go_sem] cz78 by78 Try.underlying78
attribute [go_sem] Try.eqGuardType78
theorem zr78 : zeroOf Try.prog 78 = some ([.int .i64 0, .raw (.slice none 0 0), .raw (.slice none 0 0)]) := by kernel_rfl
attribute [go_sem] zr78
theorem cz79 : Try.prog.cellsOf 79 = 3 := by kernel_rfl
theorem by79 : Try.prog.bytesOf 79 = 56 := by kernel_rfl
attribute [go_sem] cz79 by79 Try.underlying79
attribute [go_sem] Try.eqGuardType79
theorem zr79 : zeroOf Try.prog 79 = some ([.int .i64 0, .raw (.slice none 0 0), .raw (.slice none 0 0)]) := by kernel_rfl
attribute [go_sem] zr79
theorem cz80 : Try.prog.cellsOf 80 = 1 := by kernel_rfl
theorem by80 : Try.prog.bytesOf 80 = 8 := by kernel_rfl
attribute [go_sem] cz80 by80 Try.underlying80
theorem zr80 : zeroOf Try.prog 80 = some ([.raw .nilFunc]) := by kernel_rfl
attribute [go_sem] zr80
theorem cz81 : Try.prog.cellsOf 81 = 1 := by kernel_rfl
theorem by81 : Try.prog.bytesOf 81 = 8 := by kernel_rfl
attribute [go_sem] cz81 by81 Try.underlying81
theorem zr81 : zeroOf Try.prog 81 = some ([.raw .nilFunc]) := by kernel_rfl
attribute [go_sem] zr81
theorem cz82 : Try.prog.cellsOf 82 = 1 := by kernel_rfl
theorem by82 : Try.prog.bytesOf 82 = 8 := by kernel_rfl
attribute [go_sem] cz82 by82 Try.underlying82
theorem zr82 : zeroOf Try.prog 82 = some ([.raw .nilFunc]) := by kernel_rfl
attribute [go_sem] zr82
theorem cz83 : Try.prog.cellsOf 83 = 1 := by kernel_rfl
theorem by83 : Try.prog.bytesOf 83 = 8 := by kernel_rfl
attribute [go_sem] cz83 by83 Try.underlying83
theorem zr83 : zeroOf Try.prog 83 = some ([.raw .nilFunc]) := by kernel_rfl
attribute [go_sem] zr83
theorem cz84 : Try.prog.cellsOf 84 = 1 := by kernel_rfl
theorem by84 : Try.prog.bytesOf 84 = 8 := by kernel_rfl
attribute [go_sem] cz84 by84 Try.underlying84
theorem zr84 : zeroOf Try.prog 84 = some ([.raw .nilFunc]) := by kernel_rfl
attribute [go_sem] zr84
theorem cz85 : Try.prog.cellsOf 85 = 1 := by kernel_rfl
theorem by85 : Try.prog.bytesOf 85 = 8 := by kernel_rfl
attribute [go_sem] cz85 by85 Try.underlying85
theorem zr85 : zeroOf Try.prog 85 = some ([.raw .nilFunc]) := by kernel_rfl
attribute [go_sem] zr85
theorem cz86 : Try.prog.cellsOf 86 = 1 := by kernel_rfl
theorem by86 : Try.prog.bytesOf 86 = 8 := by kernel_rfl
attribute [go_sem] cz86 by86 Try.underlying86
theorem zr86 : zeroOf Try.prog 86 = some ([.raw .nilFunc]) := by kernel_rfl
attribute [go_sem] zr86
theorem cz88 : Try.prog.cellsOf 88 = 1 := by kernel_rfl
theorem by88 : Try.prog.bytesOf 88 = 8 := by kernel_rfl
attribute [go_sem] cz88 by88 Try.underlying88
theorem zr88 : zeroOf Try.prog 88 = some ([.raw .nilFunc]) := by kernel_rfl
attribute [go_sem] zr88
theorem cz90 : Try.prog.cellsOf 90 = 1 := by kernel_rfl
theorem by90 : Try.prog.bytesOf 90 = 8 := by kernel_rfl
attribute [go_sem] cz90 by90 Try.underlying90
theorem zr90 : zeroOf Try.prog 90 = some ([.raw .nilFunc]) := by kernel_rfl
attribute [go_sem] zr90
theorem cz91 : Try.prog.cellsOf 91 = 1 := by kernel_rfl
theorem by91 : Try.prog.bytesOf 91 = 8 := by kernel_rfl
attribute [go_sem] cz91 by91 Try.underlying91
theorem zr91 : zeroOf Try.prog 91 = some ([.raw (.pointer none)]) := by kernel_rfl
attribute [go_sem] zr91
theorem cz92 : Try.prog.cellsOf 92 = 1 := by kernel_rfl
theorem by92 : Try.prog.bytesOf 92 = 8 := by kernel_rfl
attribute [go_sem] cz92 by92 Try.underlying92
attribute [go_sem] Try.eqGuardType92
theorem zr92 : zeroOf Try.prog 92 = some ([.int .i64 0]) := by kernel_rfl
attribute [go_sem] zr92
theorem cz93 : Try.prog.cellsOf 93 = 1 := by kernel_rfl
theorem by93 : Try.prog.bytesOf 93 = 8 := by kernel_rfl
attribute [go_sem] cz93 by93 Try.underlying93
attribute [go_sem] Try.eqGuardType93
theorem zr93 : zeroOf Try.prog 93 = some ([.int .i64 0]) := by kernel_rfl
attribute [go_sem] zr93
theorem cz94 : Try.prog.cellsOf 94 = 1 := by kernel_rfl
theorem by94 : Try.prog.bytesOf 94 = 8 := by kernel_rfl
attribute [go_sem] cz94 by94 Try.underlying94
theorem zr94 : zeroOf Try.prog 94 = some ([.raw .nilFunc]) := by kernel_rfl
attribute [go_sem] zr94
theorem cz95 : Try.prog.cellsOf 95 = 1 := by kernel_rfl
theorem by95 : Try.prog.bytesOf 95 = 8 := by kernel_rfl
attribute [go_sem] cz95 by95 Try.underlying95
theorem zr95 : zeroOf Try.prog 95 = some ([.raw .nilFunc]) := by kernel_rfl
attribute [go_sem] zr95
theorem cz96 : Try.prog.cellsOf 96 = 1 := by kernel_rfl
theorem by96 : Try.prog.bytesOf 96 = 8 := by kernel_rfl
attribute [go_sem] cz96 by96 Try.underlying96
theorem zr96 : zeroOf Try.prog 96 = some ([.raw .nilFunc]) := by kernel_rfl
attribute [go_sem] zr96
theorem cz97 : Try.prog.cellsOf 97 = 1 := by kernel_rfl
theorem by97 : Try.prog.bytesOf 97 = 8 := by kernel_rfl
attribute [go_sem] cz97 by97 Try.underlying97
theorem zr97 : zeroOf Try.prog 97 = some ([.raw .nilFunc]) := by kernel_rfl
attribute [go_sem] zr97
theorem cz99 : Try.prog.cellsOf 99 = 1 := by kernel_rfl
theorem by99 : Try.prog.bytesOf 99 = 8 := by kernel_rfl
attribute [go_sem] cz99 by99 Try.underlying99
theorem zr99 : zeroOf Try.prog 99 = some ([.raw .nilFunc]) := by kernel_rfl
attribute [go_sem] zr99
theorem cz101 : Try.prog.cellsOf 101 = 1 := by kernel_rfl
theorem by101 : Try.prog.bytesOf 101 = 8 := by kernel_rfl
attribute [go_sem] cz101 by101 Try.underlying101
theorem zr101 : zeroOf Try.prog 101 = some ([.raw .nilFunc]) := by kernel_rfl
attribute [go_sem] zr101
theorem cz103 : Try.prog.cellsOf 103 = 1 := by kernel_rfl
theorem by103 : Try.prog.bytesOf 103 = 8 := by kernel_rfl
attribute [go_sem] cz103 by103 Try.underlying103
theorem zr103 : zeroOf Try.prog 103 = some ([.raw .nilFunc]) := by kernel_rfl
attribute [go_sem] zr103
theorem cz104 : Try.prog.cellsOf 104 = 1 := by kernel_rfl
theorem by104 : Try.prog.bytesOf 104 = 8 := by kernel_rfl
attribute [go_sem] cz104 by104 Try.underlying104
theorem zr104 : zeroOf Try.prog 104 = some ([.raw .nilFunc]) := by kernel_rfl
attribute [go_sem] zr104
theorem cz106 : Try.prog.cellsOf 106 = 1 := by kernel_rfl
theorem by106 : Try.prog.bytesOf 106 = 8 := by kernel_rfl
attribute [go_sem] cz106 by106 Try.underlying106
theorem zr106 : zeroOf Try.prog 106 = some ([.raw .nilFunc]) := by kernel_rfl
attribute [go_sem] zr106
theorem cz107 : Try.prog.cellsOf 107 = 1 := by kernel_rfl
theorem by107 : Try.prog.bytesOf 107 = 8 := by kernel_rfl
attribute [go_sem] cz107 by107 Try.underlying107
theorem zr107 : zeroOf Try.prog 107 = some ([.raw .nilFunc]) := by kernel_rfl
attribute [go_sem] zr107
theorem cz108 : Try.prog.cellsOf 108 = 1 := by kernel_rfl
theorem by108 : Try.prog.bytesOf 108 = 8 := by kernel_rfl
attribute [go_sem] cz108 by108 Try.underlying108
theorem zr108 : zeroOf Try.prog 108 = some ([.raw .nilFunc]) := by kernel_rfl
attribute [go_sem] zr108
theorem cz109 : Try.prog.cellsOf 109 = 1 := by kernel_rfl
theorem by109 : Try.prog.bytesOf 109 = 8 := by kernel_rfl
attribute [go_sem] cz109 by109 Try.underlying109
theorem zr109 : zeroOf Try.prog 109 = some ([.int .u64 0]) := by kernel_rfl
attribute [go_sem] zr109
theorem cz110 : Try.prog.cellsOf 110 = 1 := by kernel_rfl
theorem by110 : Try.prog.bytesOf 110 = 8 := by kernel_rfl
attribute [go_sem] cz110 by110 Try.underlying110
theorem zr110 : zeroOf Try.prog 110 = some ([.raw .nilFunc]) := by kernel_rfl
attribute [go_sem] zr110
theorem cz111 : Try.prog.cellsOf 111 = 1 := by kernel_rfl
theorem by111 : Try.prog.bytesOf 111 = 8 := by kernel_rfl
attribute [go_sem] cz111 by111 Try.underlying111
theorem zr111 : zeroOf Try.prog 111 = some ([.raw .nilFunc]) := by kernel_rfl
attribute [go_sem] zr111
theorem cz112 : Try.prog.cellsOf 112 = 1 := by kernel_rfl
theorem by112 : Try.prog.bytesOf 112 = 8 := by kernel_rfl
attribute [go_sem] cz112 by112 Try.underlying112
theorem zr112 : zeroOf Try.prog 112 = some ([.raw .nilFunc]) := by kernel_rfl
attribute [go_sem] zr112
theorem cz113 : Try.prog.cellsOf 113 = 1 := by kernel_rfl
theorem by113 : Try.prog.bytesOf 113 = 8 := by kernel_rfl
attribute [go_sem] cz113 by113 Try.underlying113
theorem zr113 : zeroOf Try.prog 113 = some ([.raw .nilFunc]) := by kernel_rfl
attribute [go_sem] zr113
theorem cz114 : Try.prog.cellsOf 114 = 1 := by kernel_rfl
theorem by114 : Try.prog.bytesOf 114 = 8 := by kernel_rfl
attribute [go_sem] cz114 by114 Try.underlying114
theorem zr114 : zeroOf Try.prog 114 = some ([.raw .nilFunc]) := by kernel_rfl
attribute [go_sem] zr114
theorem cz115 : Try.prog.cellsOf 115 = 1 := by kernel_rfl
theorem by115 : Try.prog.bytesOf 115 = 8 := by kernel_rfl
attribute [go_sem] cz115 by115 Try.underlying115
theorem zr115 : zeroOf Try.prog 115 = some ([.raw .nilFunc]) := by kernel_rfl
attribute [go_sem] zr115
theorem cz116 : Try.prog.cellsOf 116 = 1 := by kernel_rfl
theorem by116 : Try.prog.bytesOf 116 = 8 := by kernel_rfl
attribute [go_sem] cz116 by116 Try.underlying116
theorem zr116 : zeroOf Try.prog 116 = some ([.raw .nilFunc]) := by kernel_rfl
attribute [go_sem] zr116
theorem cz117 : Try.prog.cellsOf 117 = 1 := by kernel_rfl
theorem by117 : Try.prog.bytesOf 117 = 8 := by kernel_rfl
attribute [go_sem] cz117 by117 Try.underlying117
theorem zr117 : zeroOf Try.prog 117 = some ([.raw .nilFunc]) := by kernel_rfl
attribute [go_sem] zr117
theorem cz118 : Try.prog.cellsOf 118 = 1 := by kernel_rfl
theorem by118 : Try.prog.bytesOf 118 = 8 := by kernel_rfl
attribute [go_sem] cz118 by118 Try.underlying118
theorem zr118 : zeroOf Try.prog 118 = some ([.raw .nilFunc]) := by kernel_rfl
attribute [go_sem] zr118
theorem cz119 : Try.prog.cellsOf 119 = 4 := by kernel_rfl
theorem by119 : Try.prog.bytesOf 119 = 32 := by kernel_rfl
attribute [go_sem] cz119 by119 Try.underlying119
attribute [go_sem] Try.eqGuardType119
theorem zr119 : zeroOf Try.prog 119 = some ([.int .u64 0, .int .u64 0, .int .u64 0, .int .u64 0]) := by kernel_rfl
attribute [go_sem] zr119
theorem cz120 : Try.prog.cellsOf 120 = 1 := by kernel_rfl
theorem by120 : Try.prog.bytesOf 120 = 8 := by kernel_rfl
attribute [go_sem] cz120 by120 Try.underlying120
theorem zr120 : zeroOf Try.prog 120 = some ([.raw .nilFunc]) := by kernel_rfl
attribute [go_sem] zr120
theorem cz122 : Try.prog.cellsOf 122 = 1 := by kernel_rfl
theorem by122 : Try.prog.bytesOf 122 = 8 := by kernel_rfl
attribute [go_sem] cz122 by122 Try.underlying122
theorem zr122 : zeroOf Try.prog 122 = some ([.raw .nilFunc]) := by kernel_rfl
attribute [go_sem] zr122
theorem cz124 : Try.prog.cellsOf 124 = 1 := by kernel_rfl
theorem by124 : Try.prog.bytesOf 124 = 8 := by kernel_rfl
attribute [go_sem] cz124 by124 Try.underlying124
theorem zr124 : zeroOf Try.prog 124 = some ([.raw .nilFunc]) := by kernel_rfl
attribute [go_sem] zr124
theorem cz125 : Try.prog.cellsOf 125 = 1 := by kernel_rfl
theorem by125 : Try.prog.bytesOf 125 = 8 := by kernel_rfl
attribute [go_sem] cz125 by125 Try.underlying125
theorem zr125 : zeroOf Try.prog 125 = some ([.raw .nilFunc]) := by kernel_rfl
attribute [go_sem] zr125
theorem cz127 : Try.prog.cellsOf 127 = 1 := by kernel_rfl
theorem by127 : Try.prog.bytesOf 127 = 8 := by kernel_rfl
attribute [go_sem] cz127 by127 Try.underlying127
theorem zr127 : zeroOf Try.prog 127 = some ([.raw .nilFunc]) := by kernel_rfl
attribute [go_sem] zr127
theorem cz128 : Try.prog.cellsOf 128 = 1 := by kernel_rfl
theorem by128 : Try.prog.bytesOf 128 = 8 := by kernel_rfl
attribute [go_sem] cz128 by128 Try.underlying128
theorem zr128 : zeroOf Try.prog 128 = some ([.raw .nilFunc]) := by kernel_rfl
attribute [go_sem] zr128
theorem cz130 : Try.prog.cellsOf 130 = 1 := by kernel_rfl
theorem by130 : Try.prog.bytesOf 130 = 8 := by kernel_rfl
attribute [go_sem] cz130 by130 Try.underlying130
theorem zr130 : zeroOf Try.prog 130 = some ([.raw .nilFunc]) := by kernel_rfl
attribute [go_sem] zr130
theorem cz131 : Try.prog.cellsOf 131 = 4 := by kernel_rfl
theorem by131 : Try.prog.bytesOf 131 = 32 := by kernel_rfl
attribute [go_sem] cz131 by131 Try.underlying131
attribute [go_sem] Try.eqGuardType131
theorem zr131 : zeroOf Try.prog 131 = some ([.int .u64 0, .int .u64 0, .int .u64 0, .int .u64 0]) := by kernel_rfl
attribute [go_sem] zr131
theorem cz133 : Try.prog.cellsOf 133 = 1 := by kernel_rfl
theorem by133 : Try.prog.bytesOf 133 = 8 := by kernel_rfl
attribute [go_sem] cz133 by133 Try.underlying133
theorem zr133 : zeroOf Try.prog 133 = some ([.raw .nilFunc]) := by kernel_rfl
attribute [go_sem] zr133
theorem cz134 : Try.prog.cellsOf 134 = 1 := by kernel_rfl
theorem by134 : Try.prog.bytesOf 134 = 8 := by kernel_rfl
attribute [go_sem] cz134 by134 Try.underlying134
theorem zr134 : zeroOf Try.prog 134 = some ([.raw (.pointer none)]) := by kernel_rfl
attribute [go_sem] zr134
theorem cz135 : Try.prog.cellsOf 135 = 25 := by kernel_rfl
theorem by135 : Try.prog.bytesOf 135 = 200 := by kernel_rfl
attribute [go_sem] cz135 by135 Try.underlying135
attribute [go_sem] Try.eqGuardType135
theorem zr135 : zeroOf Try.prog 135 = some (ints .i64 (fun _ => 0) 25) := by kernel_rfl
attribute [go_sem] zr135
theorem cz136 : Try.prog.cellsOf 136 = 1 := by kernel_rfl
theorem by136 : Try.prog.bytesOf 136 = 8 := by kernel_rfl
attribute [go_sem] cz136 by136 Try.underlying136
theorem zr136 : zeroOf Try.prog 136 = some ([.raw .nilFunc]) := by kernel_rfl
attribute [go_sem] zr136
theorem cz137 : Try.prog.cellsOf 137 = 24 := by kernel_rfl
theorem by137 : Try.prog.bytesOf 137 = 192 := by kernel_rfl
attribute [go_sem] cz137 by137 Try.underlying137
attribute [go_sem] Try.eqGuardType137
theorem zr137 : zeroOf Try.prog 137 = some (ints .u64 (fun _ => 0) 24) := by kernel_rfl
attribute [go_sem] zr137
theorem cz138 : Try.prog.cellsOf 138 = 1 := by kernel_rfl
theorem by138 : Try.prog.bytesOf 138 = 8 := by kernel_rfl
attribute [go_sem] cz138 by138 Try.underlying138
theorem zr138 : zeroOf Try.prog 138 = some ([.raw .nilFunc]) := by kernel_rfl
attribute [go_sem] zr138
theorem cz139 : Try.prog.cellsOf 139 = 49 := by kernel_rfl
theorem by139 : Try.prog.bytesOf 139 = 392 := by kernel_rfl
attribute [go_sem] cz139 by139 Try.underlying139
attribute [go_sem] Try.eqGuardType139
theorem zr139 : zeroOf Try.prog 139 = some ([.int .i64 0, .int .i64 0, .int .i64 0, .int .i64 0, .int .i64 0, .int .i64 0, .int .i64 0, .int .i64 0, .int .i64 0, .int .i64 0, .int .i64 0, .int .i64 0, .int .i64 0, .int .i64 0, .int .i64 0, .int .i64 0, .int .i64 0, .int .i64 0, .int .i64 0, .int .i64 0, .int .i64 0, .int .i64 0, .int .i64 0, .int .i64 0, .int .i64 0, .int .u64 0, .int .u64 0, .int .u64 0, .int .u64 0, .int .u64 0, .int .u64 0, .int .u64 0, .int .u64 0, .int .u64 0, .int .u64 0, .int .u64 0, .int .u64 0, .int .u64 0, .int .u64 0, .int .u64 0, .int .u64 0, .int .u64 0, .int .u64 0, .int .u64 0, .int .u64 0, .int .u64 0, .int .u64 0, .int .u64 0, .int .u64 0]) := by kernel_rfl
attribute [go_sem] zr139
theorem cz140 : Try.prog.cellsOf 140 = 49 := by kernel_rfl
theorem by140 : Try.prog.bytesOf 140 = 392 := by kernel_rfl
attribute [go_sem] cz140 by140 Try.underlying140
attribute [go_sem] Try.eqGuardType140
theorem zr140 : zeroOf Try.prog 140 = some ([.int .i64 0, .int .i64 0, .int .i64 0, .int .i64 0, .int .i64 0, .int .i64 0, .int .i64 0, .int .i64 0, .int .i64 0, .int .i64 0, .int .i64 0, .int .i64 0, .int .i64 0, .int .i64 0, .int .i64 0, .int .i64 0, .int .i64 0, .int .i64 0, .int .i64 0, .int .i64 0, .int .i64 0, .int .i64 0, .int .i64 0, .int .i64 0, .int .i64 0, .int .u64 0, .int .u64 0, .int .u64 0, .int .u64 0, .int .u64 0, .int .u64 0, .int .u64 0, .int .u64 0, .int .u64 0, .int .u64 0, .int .u64 0, .int .u64 0, .int .u64 0, .int .u64 0, .int .u64 0, .int .u64 0, .int .u64 0, .int .u64 0, .int .u64 0, .int .u64 0, .int .u64 0, .int .u64 0, .int .u64 0, .int .u64 0]) := by kernel_rfl
attribute [go_sem] zr140
theorem cz141 : Try.prog.cellsOf 141 = 25 := by kernel_rfl
theorem by141 : Try.prog.bytesOf 141 = 200 := by kernel_rfl
attribute [go_sem] cz141 by141 Try.underlying141
attribute [go_sem] Try.eqGuardType141
theorem zr141 : zeroOf Try.prog 141 = some (ints .u64 (fun _ => 0) 25) := by kernel_rfl
attribute [go_sem] zr141
theorem cz142 : Try.prog.cellsOf 142 = 1 := by kernel_rfl
theorem by142 : Try.prog.bytesOf 142 = 8 := by kernel_rfl
attribute [go_sem] cz142 by142 Try.underlying142
theorem zr142 : zeroOf Try.prog 142 = some ([.raw .nilFunc]) := by kernel_rfl
attribute [go_sem] zr142
theorem cz143 : Try.prog.cellsOf 143 = 1 := by kernel_rfl
theorem by143 : Try.prog.bytesOf 143 = 8 := by kernel_rfl
attribute [go_sem] cz143 by143 Try.underlying143
theorem zr143 : zeroOf Try.prog 143 = some ([.raw .nilFunc]) := by kernel_rfl
attribute [go_sem] zr143
theorem cz144 : Try.prog.cellsOf 144 = 1 := by kernel_rfl
theorem by144 : Try.prog.bytesOf 144 = 8 := by kernel_rfl
attribute [go_sem] cz144 by144 Try.underlying144
theorem zr144 : zeroOf Try.prog 144 = some ([.raw .nilFunc]) := by kernel_rfl
attribute [go_sem] zr144
theorem cz145 : Try.prog.cellsOf 145 = 1 := by kernel_rfl
theorem by145 : Try.prog.bytesOf 145 = 8 := by kernel_rfl
attribute [go_sem] cz145 by145 Try.underlying145
theorem zr145 : zeroOf Try.prog 145 = some ([.raw .nilFunc]) := by kernel_rfl
attribute [go_sem] zr145
theorem cz146 : Try.prog.cellsOf 146 = 1 := by kernel_rfl
theorem by146 : Try.prog.bytesOf 146 = 8 := by kernel_rfl
attribute [go_sem] cz146 by146 Try.underlying146
theorem zr146 : zeroOf Try.prog 146 = some ([.raw .nilFunc]) := by kernel_rfl
attribute [go_sem] zr146
theorem cz147 : Try.prog.cellsOf 147 = 1 := by kernel_rfl
theorem by147 : Try.prog.bytesOf 147 = 8 := by kernel_rfl
attribute [go_sem] cz147 by147 Try.underlying147
theorem zr147 : zeroOf Try.prog 147 = some ([.raw .nilFunc]) := by kernel_rfl
attribute [go_sem] zr147
theorem cz149 : Try.prog.cellsOf 149 = 1 := by kernel_rfl
theorem by149 : Try.prog.bytesOf 149 = 8 := by kernel_rfl
attribute [go_sem] cz149 by149 Try.underlying149
theorem zr149 : zeroOf Try.prog 149 = some ([.raw .nilFunc]) := by kernel_rfl
attribute [go_sem] zr149
theorem cz150 : Try.prog.cellsOf 150 = 1 := by kernel_rfl
theorem by150 : Try.prog.bytesOf 150 = 8 := by kernel_rfl
attribute [go_sem] cz150 by150 Try.underlying150
theorem zr150 : zeroOf Try.prog 150 = some ([.raw .nilFunc]) := by kernel_rfl
attribute [go_sem] zr150
theorem cz151 : Try.prog.cellsOf 151 = 1 := by kernel_rfl
theorem by151 : Try.prog.bytesOf 151 = 8 := by kernel_rfl
attribute [go_sem] cz151 by151 Try.underlying151
theorem zr151 : zeroOf Try.prog 151 = some ([.raw .nilFunc]) := by kernel_rfl
attribute [go_sem] zr151
theorem cz152 : Try.prog.cellsOf 152 = 1 := by kernel_rfl
theorem by152 : Try.prog.bytesOf 152 = 8 := by kernel_rfl
attribute [go_sem] cz152 by152 Try.underlying152
theorem zr152 : zeroOf Try.prog 152 = some ([.raw .nilFunc]) := by kernel_rfl
attribute [go_sem] zr152
theorem cz153 : Try.prog.cellsOf 153 = 1 := by kernel_rfl
theorem by153 : Try.prog.bytesOf 153 = 8 := by kernel_rfl
attribute [go_sem] cz153 by153 Try.underlying153
theorem zr153 : zeroOf Try.prog 153 = some ([.raw .nilFunc]) := by kernel_rfl
attribute [go_sem] zr153
theorem cz154 : Try.prog.cellsOf 154 = 3 := by kernel_rfl
theorem by154 : Try.prog.bytesOf 154 = 24 := by kernel_rfl
attribute [go_sem] cz154 by154 Try.underlying154
attribute [go_sem] Try.eqGuardType154
theorem zr154 : zeroOf Try.prog 154 = some ([.int .i64 0, .int .i64 0, .int .i64 0]) := by kernel_rfl
attribute [go_sem] zr154
theorem cz155 : Try.prog.cellsOf 155 = 3 := by kernel_rfl
theorem by155 : Try.prog.bytesOf 155 = 24 := by kernel_rfl
attribute [go_sem] cz155 by155 Try.underlying155
attribute [go_sem] Try.eqGuardType155
theorem zr155 : zeroOf Try.prog 155 = some ([.int .i64 0, .int .i64 0, .int .i64 0]) := by kernel_rfl
attribute [go_sem] zr155
theorem cz157 : Try.prog.cellsOf 157 = 1 := by kernel_rfl
theorem by157 : Try.prog.bytesOf 157 = 8 := by kernel_rfl
attribute [go_sem] cz157 by157 Try.underlying157
theorem zr157 : zeroOf Try.prog 157 = some ([.raw .nilFunc]) := by kernel_rfl
attribute [go_sem] zr157
theorem cz159 : Try.prog.cellsOf 159 = 1 := by kernel_rfl
theorem by159 : Try.prog.bytesOf 159 = 8 := by kernel_rfl
attribute [go_sem] cz159 by159 Try.underlying159
theorem zr159 : zeroOf Try.prog 159 = some ([.raw .nilFunc]) := by kernel_rfl
attribute [go_sem] zr159
theorem cz161 : Try.prog.cellsOf 161 = 1 := by kernel_rfl
theorem by161 : Try.prog.bytesOf 161 = 8 := by kernel_rfl
attribute [go_sem] cz161 by161 Try.underlying161
theorem zr161 : zeroOf Try.prog 161 = some ([.raw .nilFunc]) := by kernel_rfl
attribute [go_sem] zr161
theorem cz162 : Try.prog.cellsOf 162 = 1 := by kernel_rfl
theorem by162 : Try.prog.bytesOf 162 = 8 := by kernel_rfl
attribute [go_sem] cz162 by162 Try.underlying162
theorem zr162 : zeroOf Try.prog 162 = some ([.raw .nilFunc]) := by kernel_rfl
attribute [go_sem] zr162
theorem cz163 : Try.prog.cellsOf 163 = 5 := by kernel_rfl
theorem by163 : Try.prog.bytesOf 163 = 40 := by kernel_rfl
attribute [go_sem] cz163 by163 Try.underlying163
attribute [go_sem] Try.eqGuardType163
theorem zr163 : zeroOf Try.prog 163 = some (ints .u64 (fun _ => 0) 5) := by kernel_rfl
attribute [go_sem] zr163
theorem cz164 : Try.prog.cellsOf 164 = 1 := by kernel_rfl
theorem by164 : Try.prog.bytesOf 164 = 8 := by kernel_rfl
attribute [go_sem] cz164 by164 Try.underlying164
theorem zr164 : zeroOf Try.prog 164 = some ([.raw .nilFunc]) := by kernel_rfl
attribute [go_sem] zr164
theorem cz165 : Try.prog.cellsOf 165 = 1 := by kernel_rfl
theorem by165 : Try.prog.bytesOf 165 = 8 := by kernel_rfl
attribute [go_sem] cz165 by165 Try.underlying165
theorem zr165 : zeroOf Try.prog 165 = some ([.raw .nilFunc]) := by kernel_rfl
attribute [go_sem] zr165
theorem cz166 : Try.prog.cellsOf 166 = 1 := by kernel_rfl
theorem by166 : Try.prog.bytesOf 166 = 8 := by kernel_rfl
attribute [go_sem] cz166 by166 Try.underlying166
theorem zr166 : zeroOf Try.prog 166 = some ([.raw .nilFunc]) := by kernel_rfl
attribute [go_sem] zr166
theorem cz167 : Try.prog.cellsOf 167 = 1 := by kernel_rfl
theorem by167 : Try.prog.bytesOf 167 = 8 := by kernel_rfl
attribute [go_sem] cz167 by167 Try.underlying167
theorem zr167 : zeroOf Try.prog 167 = some ([.raw .nilFunc]) := by kernel_rfl
attribute [go_sem] zr167
theorem cz169 : Try.prog.cellsOf 169 = 1 := by kernel_rfl
theorem by169 : Try.prog.bytesOf 169 = 8 := by kernel_rfl
attribute [go_sem] cz169 by169 Try.underlying169
theorem zr169 : zeroOf Try.prog 169 = some ([.raw .nilFunc]) := by kernel_rfl
attribute [go_sem] zr169
theorem cz170 : Try.prog.cellsOf 170 = 1 := by kernel_rfl
theorem by170 : Try.prog.bytesOf 170 = 8 := by kernel_rfl
attribute [go_sem] cz170 by170 Try.underlying170
theorem zr170 : zeroOf Try.prog 170 = some ([.raw .nilFunc]) := by kernel_rfl
attribute [go_sem] zr170
theorem cz171 : Try.prog.cellsOf 171 = 1 := by kernel_rfl
theorem by171 : Try.prog.bytesOf 171 = 8 := by kernel_rfl
attribute [go_sem] cz171 by171 Try.underlying171
theorem zr171 : zeroOf Try.prog 171 = some ([.raw .nilFunc]) := by kernel_rfl
attribute [go_sem] zr171
theorem cz172 : Try.prog.cellsOf 172 = 1 := by kernel_rfl
theorem by172 : Try.prog.bytesOf 172 = 8 := by kernel_rfl
attribute [go_sem] cz172 by172 Try.underlying172
theorem zr172 : zeroOf Try.prog 172 = some ([.raw .nilFunc]) := by kernel_rfl
attribute [go_sem] zr172
theorem cz174 : Try.prog.cellsOf 174 = 1 := by kernel_rfl
theorem by174 : Try.prog.bytesOf 174 = 8 := by kernel_rfl
attribute [go_sem] cz174 by174 Try.underlying174
theorem zr174 : zeroOf Try.prog 174 = some ([.raw .nilFunc]) := by kernel_rfl
attribute [go_sem] zr174
theorem cz175 : Try.prog.cellsOf 175 = 1 := by kernel_rfl
theorem by175 : Try.prog.bytesOf 175 = 8 := by kernel_rfl
attribute [go_sem] cz175 by175 Try.underlying175
theorem zr175 : zeroOf Try.prog 175 = some ([.raw .nilFunc]) := by kernel_rfl
attribute [go_sem] zr175
theorem cz176 : Try.prog.cellsOf 176 = 4 := by kernel_rfl
theorem by176 : Try.prog.bytesOf 176 = 40 := by kernel_rfl
attribute [go_sem] cz176 by176 Try.underlying176
attribute [go_sem] Try.eqGuardType176
theorem zr176 : zeroOf Try.prog 176 = some ([.raw (.pointer none), .raw (.pointer none), .raw (.pointer none), .str ⟨#[]⟩]) := by kernel_rfl
attribute [go_sem] zr176
theorem cz177 : Try.prog.cellsOf 177 = 4 := by kernel_rfl
theorem by177 : Try.prog.bytesOf 177 = 40 := by kernel_rfl
attribute [go_sem] cz177 by177 Try.underlying177
attribute [go_sem] Try.eqGuardType177
theorem zr177 : zeroOf Try.prog 177 = some ([.raw (.pointer none), .raw (.pointer none), .raw (.pointer none), .str ⟨#[]⟩]) := by kernel_rfl
attribute [go_sem] zr177
theorem cz178 : Try.prog.cellsOf 178 = 0 := by kernel_rfl
theorem by178 : Try.prog.bytesOf 178 = 0 := by kernel_rfl
attribute [go_sem] cz178 by178 Try.underlying178
attribute [go_sem] Try.eqGuardType178
theorem zr178 : zeroOf Try.prog 178 = some ([]) := by kernel_rfl
attribute [go_sem] zr178
theorem cz179 : Try.prog.cellsOf 179 = 0 := by kernel_rfl
theorem by179 : Try.prog.bytesOf 179 = 0 := by kernel_rfl
attribute [go_sem] cz179 by179 Try.underlying179
attribute [go_sem] Try.eqGuardType179
theorem zr179 : zeroOf Try.prog 179 = some ([]) := by kernel_rfl
attribute [go_sem] zr179
theorem cz180 : Try.prog.cellsOf 180 = 0 := by kernel_rfl
theorem by180 : Try.prog.bytesOf 180 = 0 := by kernel_rfl
attribute [go_sem] cz180 by180 Try.underlying180
attribute [go_sem] Try.eqGuardType180
theorem zr180 : zeroOf Try.prog 180 = some ([]) := by kernel_rfl
attribute [go_sem] zr180
theorem cz181 : Try.prog.cellsOf 181 = 1 := by kernel_rfl
theorem by181 : Try.prog.bytesOf 181 = 8 := by kernel_rfl
attribute [go_sem] cz181 by181 Try.underlying181
theorem zr181 : zeroOf Try.prog 181 = some ([.raw .nilFunc]) := by kernel_rfl
attribute [go_sem] zr181
theorem cz182 : Try.prog.cellsOf 182 = 1 := by kernel_rfl
theorem by182 : Try.prog.bytesOf 182 = 4 := by kernel_rfl
attribute [go_sem] cz182 by182 Try.underlying182
theorem zr182 : zeroOf Try.prog 182 = some ([.int .u32 0]) := by kernel_rfl
attribute [go_sem] zr182
theorem cz183 : Try.prog.cellsOf 183 = 1 := by kernel_rfl
theorem by183 : Try.prog.bytesOf 183 = 1 := by kernel_rfl
attribute [go_sem] cz183 by183 Try.underlying183
theorem zr183 : zeroOf Try.prog 183 = some ([.int .u8 0]) := by kernel_rfl
attribute [go_sem] zr183
theorem cz184 : Try.prog.cellsOf 184 = 1 := by kernel_rfl
theorem by184 : Try.prog.bytesOf 184 = 1 := by kernel_rfl
attribute [go_sem] cz184 by184 Try.underlying184
theorem zr184 : zeroOf Try.prog 184 = some ([.int .u8 0]) := by kernel_rfl
attribute [go_sem] zr184
theorem cz185 : Try.prog.cellsOf 185 = 1 := by kernel_rfl
theorem by185 : Try.prog.bytesOf 185 = 8 := by kernel_rfl
attribute [go_sem] cz185 by185 Try.underlying185
theorem zr185 : zeroOf Try.prog 185 = some ([.raw .nilFunc]) := by kernel_rfl
attribute [go_sem] zr185
theorem cz186 : Try.prog.cellsOf 186 = 1 := by kernel_rfl
theorem by186 : Try.prog.bytesOf 186 = 8 := by kernel_rfl
attribute [go_sem] cz186 by186 Try.underlying186
theorem zr186 : zeroOf Try.prog 186 = some ([.raw (.pointer none)]) := by kernel_rfl
attribute [go_sem] zr186
theorem cz187 : Try.prog.cellsOf 187 = 1 := by kernel_rfl
theorem by187 : Try.prog.bytesOf 187 = 4 := by kernel_rfl
attribute [go_sem] cz187 by187 Try.underlying187
theorem zr187 : zeroOf Try.prog 187 = some ([.int .i32 0]) := by kernel_rfl
attribute [go_sem] zr187
theorem cz188 : Try.prog.cellsOf 188 = 1 := by kernel_rfl
theorem by188 : Try.prog.bytesOf 188 = 4 := by kernel_rfl
attribute [go_sem] cz188 by188 Try.underlying188
theorem zr188 : zeroOf Try.prog 188 = some ([.int .i32 0]) := by kernel_rfl
attribute [go_sem] zr188
theorem cz189 : Try.prog.cellsOf 189 = 11 := by kernel_rfl
theorem by189 : Try.prog.bytesOf 189 = 48 := by kernel_rfl
attribute [go_sem] cz189 by189 Try.underlying189
attribute [go_sem] Try.eqGuardType189
theorem zr189 : zeroOf Try.prog 189 = some ([.int .u64 0, .int .u64 0, .int .u32 0, .int .u8 0, .int .u8 0, .int .u8 0, .int .u8 0, .raw .nilFunc, .raw (.pointer none), .int .i32 0, .int .i32 0]) := by kernel_rfl
attribute [go_sem] zr189
theorem cz190 : Try.prog.cellsOf 190 = 11 := by kernel_rfl
theorem by190 : Try.prog.bytesOf 190 = 48 := by kernel_rfl
attribute [go_sem] cz190 by190 Try.underlying190
attribute [go_sem] Try.eqGuardType190
theorem zr190 : zeroOf Try.prog 190 = some ([.int .u64 0, .int .u64 0, .int .u32 0, .int .u8 0, .int .u8 0, .int .u8 0, .int .u8 0, .raw .nilFunc, .raw (.pointer none), .int .i32 0, .int .i32 0]) := by kernel_rfl
attribute [go_sem] zr190
theorem cz191 : Try.prog.cellsOf 191 = 1 := by kernel_rfl
theorem by191 : Try.prog.bytesOf 191 = 8 := by kernel_rfl
attribute [go_sem] cz191 by191 Try.underlying191
theorem zr191 : zeroOf Try.prog 191 = some ([.raw (.pointer none)]) := by kernel_rfl
attribute [go_sem] zr191
theorem en3 : Enters Try.prog 3 := fun args w => Try.call3 args w
theorem en4 : Enters Try.prog 4 := fun args w => Try.call4 args w
theorem en5 : Enters Try.prog 5 := fun args w => Try.call5 args w
theorem en6 : Enters Try.prog 6 := fun args w => Try.call6 args w
theorem en7 : Enters Try.prog 7 := fun args w => Try.call7 args w
theorem en8 : Enters Try.prog 8 := fun args w => Try.call8 args w
theorem en9 : Enters Try.prog 9 := fun args w => Try.call9 args w
theorem en10 : Enters Try.prog 10 := fun args w => Try.call10 args w
theorem en11 : Enters Try.prog 11 := fun args w => Try.call11 args w
theorem en12 : Enters Try.prog 12 := fun args w => Try.call12 args w
theorem en13 : Enters Try.prog 13 := fun args w => Try.call13 args w
theorem en14 : Enters Try.prog 14 := fun args w => Try.call14 args w
theorem en15 : Enters Try.prog 15 := fun args w => Try.call15 args w
theorem en16 : Enters Try.prog 16 := fun args w => Try.call16 args w
theorem en17 : Enters Try.prog 17 := fun args w => Try.call17 args w
theorem en18 : Enters Try.prog 18 := fun args w => Try.call18 args w
theorem en19 : Enters Try.prog 19 := fun args w => Try.call19 args w
theorem en20 : Enters Try.prog 20 := fun args w => Try.call20 args w
theorem en21 : Enters Try.prog 21 := fun args w => Try.call21 args w
theorem en22 : Enters Try.prog 22 := fun args w => Try.call22 args w
theorem en23 : Enters Try.prog 23 := fun args w => Try.call23 args w
theorem en24 : Enters Try.prog 24 := fun args w => Try.call24 args w
theorem en25 : Enters Try.prog 25 := fun args w => Try.call25 args w
theorem en26 : Enters Try.prog 26 := fun args w => Try.call26 args w
theorem en27 : Enters Try.prog 27 := fun args w => Try.call27 args w
theorem en28 : Enters Try.prog 28 := fun args w => Try.call28 args w
theorem en29 : Enters Try.prog 29 := fun args w => Try.call29 args w
theorem en30 : Enters Try.prog 30 := fun args w => Try.call30 args w
theorem en31 : Enters Try.prog 31 := fun args w => Try.call31 args w
theorem en32 : Enters Try.prog 32 := fun args w => Try.call32 args w
theorem en33 : Enters Try.prog 33 := fun args w => Try.call33 args w
theorem en34 : Enters Try.prog 34 := fun args w => Try.call34 args w
theorem en35 : Enters Try.prog 35 := fun args w => Try.call35 args w
theorem en36 : Enters Try.prog 36 := fun args w => Try.call36 args w
theorem en37 : Enters Try.prog 37 := fun args w => Try.call37 args w
theorem en38 : Enters Try.prog 38 := fun args w => Try.call38 args w
theorem en39 : Enters Try.prog 39 := fun args w => Try.call39 args w
theorem en40 : Enters Try.prog 40 := fun args w => Try.call40 args w
theorem en41 : Enters Try.prog 41 := fun args w => Try.call41 args w
theorem en42 : Enters Try.prog 42 := fun args w => Try.call42 args w
theorem en43 : Enters Try.prog 43 := fun args w => Try.call43 args w
theorem en44 : Enters Try.prog 44 := fun args w => Try.call44 args w
theorem en45 : Enters Try.prog 45 := fun args w => Try.call45 args w
theorem en46 : Enters Try.prog 46 := fun args w => Try.call46 args w
theorem en47 : Enters Try.prog 47 := fun args w => Try.call47 args w
theorem en48 : Enters Try.prog 48 := fun args w => Try.call48 args w
theorem en49 : Enters Try.prog 49 := fun args w => Try.call49 args w
theorem en50 : Enters Try.prog 50 := fun args w => Try.call50 args w
theorem en51 : Enters Try.prog 51 := fun args w => Try.call51 args w
theorem en52 : Enters Try.prog 52 := fun args w => Try.call52 args w
theorem en53 : Enters Try.prog 53 := fun args w => Try.call53 args w
theorem en54 : Enters Try.prog 54 := fun args w => Try.call54 args w
theorem en55 : Enters Try.prog 55 := fun args w => Try.call55 args w
theorem en56 : Enters Try.prog 56 := fun args w => Try.call56 args w
theorem en57 : Enters Try.prog 57 := fun args w => Try.call57 args w
theorem en58 : Enters Try.prog 58 := fun args w => Try.call58 args w
theorem en59 : Enters Try.prog 59 := fun args w => Try.call59 args w
theorem en60 : Enters Try.prog 60 := fun args w => Try.call60 args w
theorem en61 : Enters Try.prog 61 := fun args w => Try.call61 args w
theorem en62 : Enters Try.prog 62 := fun args w => Try.call62 args w
theorem en63 : Enters Try.prog 63 := fun args w => Try.call63 args w
theorem en64 : Enters Try.prog 64 := fun args w => Try.call64 args w
theorem en65 : Enters Try.prog 65 := fun args w => Try.call65 args w
theorem en66 : Enters Try.prog 66 := fun args w => Try.call66 args w
theorem en67 : Enters Try.prog 67 := fun args w => Try.call67 args w
theorem en68 : Enters Try.prog 68 := fun args w => Try.call68 args w
theorem en69 : Enters Try.prog 69 := fun args w => Try.call69 args w
theorem en70 : Enters Try.prog 70 := fun args w => Try.call70 args w
theorem en71 : Enters Try.prog 71 := fun args w => Try.call71 args w
theorem en72 : Enters Try.prog 72 := fun args w => Try.call72 args w
theorem en73 : Enters Try.prog 73 := fun args w => Try.call73 args w
theorem en74 : Enters Try.prog 74 := fun args w => Try.call74 args w
theorem en75 : Enters Try.prog 75 := fun args w => Try.call75 args w
theorem en76 : Enters Try.prog 76 := fun args w => Try.call76 args w
theorem en77 : Enters Try.prog 77 := fun args w => Try.call77 args w
theorem en78 : Enters Try.prog 78 := fun args w => Try.call78 args w
theorem en79 : Enters Try.prog 79 := fun args w => Try.call79 args w
theorem en80 : Enters Try.prog 80 := fun args w => Try.call80 args w
theorem en81 : Enters Try.prog 81 := fun args w => Try.call81 args w
theorem en82 : Enters Try.prog 82 := fun args w => Try.call82 args w
theorem en83 : Enters Try.prog 83 := fun args w => Try.call83 args w
theorem en84 : Enters Try.prog 84 := fun args w => Try.call84 args w
theorem en85 : Enters Try.prog 85 := fun args w => Try.call85 args w
theorem en86 : Enters Try.prog 86 := fun args w => Try.call86 args w
theorem en87 : Enters Try.prog 87 := fun args w => Try.call87 args w
theorem en88 : Enters Try.prog 88 := fun args w => Try.call88 args w
theorem en89 : Enters Try.prog 89 := fun args w => Try.call89 args w
theorem en90 : Enters Try.prog 90 := fun args w => Try.call90 args w
theorem en91 : Enters Try.prog 91 := fun args w => Try.call91 args w
theorem en92 : Enters Try.prog 92 := fun args w => Try.call92 args w
theorem en93 : Enters Try.prog 93 := fun args w => Try.call93 args w
theorem en94 : Enters Try.prog 94 := fun args w => Try.call94 args w
theorem en95 : Enters Try.prog 95 := fun args w => Try.call95 args w
theorem en96 : Enters Try.prog 96 := fun args w => Try.call96 args w
theorem en97 : Enters Try.prog 97 := fun args w => Try.call97 args w
theorem en98 : Enters Try.prog 98 := fun args w => Try.call98 args w
theorem en99 : Enters Try.prog 99 := fun args w => Try.call99 args w
theorem en100 : Enters Try.prog 100 := fun args w => Try.call100 args w
theorem en101 : Enters Try.prog 101 := fun args w => Try.call101 args w
theorem en102 : Enters Try.prog 102 := fun args w => Try.call102 args w
theorem en103 : Enters Try.prog 103 := fun args w => Try.call103 args w
theorem en104 : Enters Try.prog 104 := fun args w => Try.call104 args w
theorem mixed : Try.prog.follows .mixedOrders = true := by kernel_rfl
end Go.Proofs.Ytepabkjfnpaijaa
