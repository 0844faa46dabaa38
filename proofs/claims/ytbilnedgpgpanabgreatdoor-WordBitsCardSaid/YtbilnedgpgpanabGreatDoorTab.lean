/- Closed facts of the program's tables: sizes, zero values, types. Printed by gentab.py. -/
import Derived.Test.YtbilnedgpgpanabGreatDoorProg
import Derived.Test.YtbilnedgpgpanabGreatDoorEng3
import Derived.KernelRfl
set_option maxRecDepth 100000
namespace Go.Proofs.YtbilnedgpgpanabGreatDoor
open Go Go.Ew
theorem cz1 : Tryz.prog.cellsOf 1 = 1 := by kernel_rfl
theorem by1 : Tryz.prog.bytesOf 1 = 8 := by kernel_rfl
attribute [go_sem] cz1 by1 Tryz.underlying1
theorem zr1 : zeroOf Tryz.prog 1 = some ([.raw .nilFunc]) := by kernel_rfl
attribute [go_sem] zr1
theorem cz2 : Tryz.prog.cellsOf 2 = 1 := by kernel_rfl
theorem by2 : Tryz.prog.bytesOf 2 = 8 := by kernel_rfl
attribute [go_sem] cz2 by2 Tryz.underlying2
theorem zr2 : zeroOf Tryz.prog 2 = some ([.int .i64 0]) := by kernel_rfl
attribute [go_sem] zr2
theorem cz3 : Tryz.prog.cellsOf 3 = 1 := by kernel_rfl
theorem by3 : Tryz.prog.bytesOf 3 = 8 := by kernel_rfl
attribute [go_sem] cz3 by3 Tryz.underlying3
theorem zr3 : zeroOf Tryz.prog 3 = some ([.int .i64 0]) := by kernel_rfl
attribute [go_sem] zr3
theorem cz4 : Tryz.prog.cellsOf 4 = 1 := by kernel_rfl
theorem by4 : Tryz.prog.bytesOf 4 = 1 := by kernel_rfl
attribute [go_sem] cz4 by4 Tryz.underlying4
theorem zr4 : zeroOf Tryz.prog 4 = some ([.bool false]) := by kernel_rfl
attribute [go_sem] zr4
theorem cz5 : Tryz.prog.cellsOf 5 = 1 := by kernel_rfl
theorem by5 : Tryz.prog.bytesOf 5 = 1 := by kernel_rfl
attribute [go_sem] cz5 by5 Tryz.underlying5
theorem zr5 : zeroOf Tryz.prog 5 = some ([.int .u8 0]) := by kernel_rfl
attribute [go_sem] zr5
theorem cz6 : Tryz.prog.cellsOf 6 = 1 := by kernel_rfl
theorem by6 : Tryz.prog.bytesOf 6 = 1 := by kernel_rfl
attribute [go_sem] cz6 by6 Tryz.underlying6
theorem zr6 : zeroOf Tryz.prog 6 = some ([.int .u8 0]) := by kernel_rfl
attribute [go_sem] zr6
theorem cz7 : Tryz.prog.cellsOf 7 = 4 := by kernel_rfl
theorem by7 : Tryz.prog.bytesOf 7 = 24 := by kernel_rfl
attribute [go_sem] cz7 by7 Tryz.underlying7
attribute [go_sem] Tryz.eqGuardType7
theorem zr7 : zeroOf Tryz.prog 7 = some ([.int .i64 0, .int .i64 0, .bool false, .int .u8 0]) := by kernel_rfl
attribute [go_sem] zr7
theorem cz8 : Tryz.prog.cellsOf 8 = 4 := by kernel_rfl
theorem by8 : Tryz.prog.bytesOf 8 = 24 := by kernel_rfl
attribute [go_sem] cz8 by8 Tryz.underlying8
attribute [go_sem] Tryz.eqGuardType8
theorem zr8 : zeroOf Tryz.prog 8 = some ([.int .i64 0, .int .i64 0, .bool false, .int .u8 0]) := by kernel_rfl
attribute [go_sem] zr8
theorem cz9 : Tryz.prog.cellsOf 9 = 1 := by kernel_rfl
theorem by9 : Tryz.prog.bytesOf 9 = 16 := by kernel_rfl
attribute [go_sem] cz9 by9 Tryz.underlying9
theorem zr9 : zeroOf Tryz.prog 9 = some ([.str ⟨#[]⟩]) := by kernel_rfl
attribute [go_sem] zr9
theorem cz10 : Tryz.prog.cellsOf 10 = 1 := by kernel_rfl
theorem by10 : Tryz.prog.bytesOf 10 = 16 := by kernel_rfl
attribute [go_sem] cz10 by10 Tryz.underlying10
theorem zr10 : zeroOf Tryz.prog 10 = some ([.str ⟨#[]⟩]) := by kernel_rfl
attribute [go_sem] zr10
theorem cz11 : Tryz.prog.cellsOf 11 = 1 := by kernel_rfl
theorem by11 : Tryz.prog.bytesOf 11 = 16 := by kernel_rfl
attribute [go_sem] cz11 by11 Tryz.underlying11
theorem zr11 : zeroOf Tryz.prog 11 = some ([.str ⟨#[]⟩]) := by kernel_rfl
attribute [go_sem] zr11
theorem cz12 : Tryz.prog.cellsOf 12 = 1 := by kernel_rfl
theorem by12 : Tryz.prog.bytesOf 12 = 8 := by kernel_rfl
attribute [go_sem] cz12 by12 Tryz.underlying12
theorem zr12 : zeroOf Tryz.prog 12 = some ([.int .u64 0]) := by kernel_rfl
attribute [go_sem] zr12
theorem cz13 : Tryz.prog.cellsOf 13 = 2 := by kernel_rfl
theorem by13 : Tryz.prog.bytesOf 13 = 24 := by kernel_rfl
attribute [go_sem] cz13 by13 Tryz.underlying13
attribute [go_sem] Tryz.eqGuardType13
theorem zr13 : zeroOf Tryz.prog 13 = some ([.str ⟨#[]⟩, .int .u64 0]) := by kernel_rfl
attribute [go_sem] zr13
theorem cz14 : Tryz.prog.cellsOf 14 = 2 := by kernel_rfl
theorem by14 : Tryz.prog.bytesOf 14 = 24 := by kernel_rfl
attribute [go_sem] cz14 by14 Tryz.underlying14
attribute [go_sem] Tryz.eqGuardType14
theorem zr14 : zeroOf Tryz.prog 14 = some ([.str ⟨#[]⟩, .int .u64 0]) := by kernel_rfl
attribute [go_sem] zr14
theorem cz15 : Tryz.prog.cellsOf 15 = 1 := by kernel_rfl
theorem by15 : Tryz.prog.bytesOf 15 = 8 := by kernel_rfl
attribute [go_sem] cz15 by15 Tryz.underlying15
theorem zr15 : zeroOf Tryz.prog 15 = some ([.raw (.pointer none)]) := by kernel_rfl
attribute [go_sem] zr15
theorem cz16 : Tryz.prog.cellsOf 16 = 1 := by kernel_rfl
theorem by16 : Tryz.prog.bytesOf 16 = 8 := by kernel_rfl
attribute [go_sem] cz16 by16 Tryz.underlying16
theorem zr16 : zeroOf Tryz.prog 16 = some ([.raw (.pointer none)]) := by kernel_rfl
attribute [go_sem] zr16
theorem cz17 : Tryz.prog.cellsOf 17 = 1 := by kernel_rfl
theorem by17 : Tryz.prog.bytesOf 17 = 8 := by kernel_rfl
attribute [go_sem] cz17 by17 Tryz.underlying17
theorem zr17 : zeroOf Tryz.prog 17 = some ([.raw (.pointer none)]) := by kernel_rfl
attribute [go_sem] zr17
theorem cz18 : Tryz.prog.cellsOf 18 = 1 := by kernel_rfl
theorem by18 : Tryz.prog.bytesOf 18 = 8 := by kernel_rfl
attribute [go_sem] cz18 by18 Tryz.underlying18
attribute [go_sem] Tryz.eqGuardType18
theorem zr18 : zeroOf Tryz.prog 18 = some ([.raw (.pointer none)]) := by kernel_rfl
attribute [go_sem] zr18
theorem cz19 : Tryz.prog.cellsOf 19 = 1 := by kernel_rfl
theorem by19 : Tryz.prog.bytesOf 19 = 8 := by kernel_rfl
attribute [go_sem] cz19 by19 Tryz.underlying19
attribute [go_sem] Tryz.eqGuardType19
theorem zr19 : zeroOf Tryz.prog 19 = some ([.raw (.pointer none)]) := by kernel_rfl
attribute [go_sem] zr19
theorem cz20 : Tryz.prog.cellsOf 20 = 1 := by kernel_rfl
theorem by20 : Tryz.prog.bytesOf 20 = 16 := by kernel_rfl
attribute [go_sem] cz20 by20 Tryz.underlying20
theorem zr20 : zeroOf Tryz.prog 20 = some ([.raw .nilIface]) := by kernel_rfl
attribute [go_sem] zr20
theorem cz21 : Tryz.prog.cellsOf 21 = 1 := by kernel_rfl
theorem by21 : Tryz.prog.bytesOf 21 = 4 := by kernel_rfl
attribute [go_sem] cz21 by21 Tryz.underlying21
theorem zr21 : zeroOf Tryz.prog 21 = some ([.int .i32 0]) := by kernel_rfl
attribute [go_sem] zr21
theorem cz22 : Tryz.prog.cellsOf 22 = 1 := by kernel_rfl
theorem by22 : Tryz.prog.bytesOf 22 = 8 := by kernel_rfl
attribute [go_sem] cz22 by22 Tryz.underlying22
theorem zr22 : zeroOf Tryz.prog 22 = some ([.int .u64 0]) := by kernel_rfl
attribute [go_sem] zr22
theorem cz23 : Tryz.prog.cellsOf 23 = 4 := by kernel_rfl
theorem by23 : Tryz.prog.bytesOf 23 = 32 := by kernel_rfl
attribute [go_sem] cz23 by23 Tryz.underlying23
attribute [go_sem] Tryz.eqGuardType23
theorem zr23 : zeroOf Tryz.prog 23 = some ([.int .u64 0, .int .u64 0, .int .u64 0, .int .u64 0]) := by kernel_rfl
attribute [go_sem] zr23
theorem cz24 : Tryz.prog.cellsOf 24 = 4 := by kernel_rfl
theorem by24 : Tryz.prog.bytesOf 24 = 32 := by kernel_rfl
attribute [go_sem] cz24 by24 Tryz.underlying24
attribute [go_sem] Tryz.eqGuardType24
theorem zr24 : zeroOf Tryz.prog 24 = some ([.int .u64 0, .int .u64 0, .int .u64 0, .int .u64 0]) := by kernel_rfl
attribute [go_sem] zr24
theorem cz25 : Tryz.prog.cellsOf 25 = 1 := by kernel_rfl
theorem by25 : Tryz.prog.bytesOf 25 = 8 := by kernel_rfl
attribute [go_sem] cz25 by25 Tryz.underlying25
theorem zr25 : zeroOf Tryz.prog 25 = some ([.raw .nilFunc]) := by kernel_rfl
attribute [go_sem] zr25
theorem cz26 : Tryz.prog.cellsOf 26 = 1 := by kernel_rfl
theorem by26 : Tryz.prog.bytesOf 26 = 8 := by kernel_rfl
attribute [go_sem] cz26 by26 Tryz.underlying26
theorem zr26 : zeroOf Tryz.prog 26 = some ([.raw .nilFunc]) := by kernel_rfl
attribute [go_sem] zr26
theorem cz27 : Tryz.prog.cellsOf 27 = 1 := by kernel_rfl
theorem by27 : Tryz.prog.bytesOf 27 = 8 := by kernel_rfl
attribute [go_sem] cz27 by27 Tryz.underlying27
theorem zr27 : zeroOf Tryz.prog 27 = some ([.raw .nilFunc]) := by kernel_rfl
attribute [go_sem] zr27
theorem cz28 : Tryz.prog.cellsOf 28 = 1 := by kernel_rfl
theorem by28 : Tryz.prog.bytesOf 28 = 8 := by kernel_rfl
attribute [go_sem] cz28 by28 Tryz.underlying28
theorem zr28 : zeroOf Tryz.prog 28 = some ([.raw .nilFunc]) := by kernel_rfl
attribute [go_sem] zr28
theorem cz29 : Tryz.prog.cellsOf 29 = 1 := by kernel_rfl
theorem by29 : Tryz.prog.bytesOf 29 = 8 := by kernel_rfl
attribute [go_sem] cz29 by29 Tryz.underlying29
theorem zr29 : zeroOf Tryz.prog 29 = some ([.raw .nilFunc]) := by kernel_rfl
attribute [go_sem] zr29
theorem cz30 : Tryz.prog.cellsOf 30 = 1 := by kernel_rfl
theorem by30 : Tryz.prog.bytesOf 30 = 8 := by kernel_rfl
attribute [go_sem] cz30 by30 Tryz.underlying30
theorem zr30 : zeroOf Tryz.prog 30 = some ([.raw .nilFunc]) := by kernel_rfl
attribute [go_sem] zr30
theorem cz31 : Tryz.prog.cellsOf 31 = 1 := by kernel_rfl
theorem by31 : Tryz.prog.bytesOf 31 = 8 := by kernel_rfl
attribute [go_sem] cz31 by31 Tryz.underlying31
theorem zr31 : zeroOf Tryz.prog 31 = some ([.raw .nilFunc]) := by kernel_rfl
attribute [go_sem] zr31
theorem cz32 : Tryz.prog.cellsOf 32 = 1 := by kernel_rfl
theorem by32 : Tryz.prog.bytesOf 32 = 8 := by kernel_rfl
attribute [go_sem] cz32 by32 Tryz.underlying32
theorem zr32 : zeroOf Tryz.prog 32 = some ([.raw .nilFunc]) := by kernel_rfl
attribute [go_sem] zr32
theorem cz33 : Tryz.prog.cellsOf 33 = 1 := by kernel_rfl
theorem by33 : Tryz.prog.bytesOf 33 = 8 := by kernel_rfl
attribute [go_sem] cz33 by33 Tryz.underlying33
theorem zr33 : zeroOf Tryz.prog 33 = some ([.raw .nilFunc]) := by kernel_rfl
attribute [go_sem] zr33
theorem cz34 : Tryz.prog.cellsOf 34 = 1 := by kernel_rfl
theorem by34 : Tryz.prog.bytesOf 34 = 8 := by kernel_rfl
attribute [go_sem] cz34 by34 Tryz.underlying34
theorem zr34 : zeroOf Tryz.prog 34 = some ([.raw .nilFunc]) := by kernel_rfl
attribute [go_sem] zr34
theorem cz35 : Tryz.prog.cellsOf 35 = 1 := by kernel_rfl
theorem by35 : Tryz.prog.bytesOf 35 = 8 := by kernel_rfl
attribute [go_sem] cz35 by35 Tryz.underlying35
theorem zr35 : zeroOf Tryz.prog 35 = some ([.raw .nilFunc]) := by kernel_rfl
attribute [go_sem] zr35
theorem cz36 : Tryz.prog.cellsOf 36 = 1 := by kernel_rfl
theorem by36 : Tryz.prog.bytesOf 36 = 8 := by kernel_rfl
attribute [go_sem] cz36 by36 Tryz.underlying36
theorem zr36 : zeroOf Tryz.prog 36 = some ([.raw .nilFunc]) := by kernel_rfl
attribute [go_sem] zr36
theorem cz37 : Tryz.prog.cellsOf 37 = 1 := by kernel_rfl
theorem by37 : Tryz.prog.bytesOf 37 = 8 := by kernel_rfl
attribute [go_sem] cz37 by37 Tryz.underlying37
theorem zr37 : zeroOf Tryz.prog 37 = some ([.raw .nilFunc]) := by kernel_rfl
attribute [go_sem] zr37
theorem cz38 : Tryz.prog.cellsOf 38 = 1 := by kernel_rfl
theorem by38 : Tryz.prog.bytesOf 38 = 8 := by kernel_rfl
attribute [go_sem] cz38 by38 Tryz.underlying38
theorem zr38 : zeroOf Tryz.prog 38 = some ([.raw .nilFunc]) := by kernel_rfl
attribute [go_sem] zr38
theorem cz39 : Tryz.prog.cellsOf 39 = 1 := by kernel_rfl
theorem by39 : Tryz.prog.bytesOf 39 = 8 := by kernel_rfl
attribute [go_sem] cz39 by39 Tryz.underlying39
theorem zr39 : zeroOf Tryz.prog 39 = some ([.raw .nilFunc]) := by kernel_rfl
attribute [go_sem] zr39
theorem cz40 : Tryz.prog.cellsOf 40 = 17 := by kernel_rfl
theorem by40 : Tryz.prog.bytesOf 40 = 136 := by kernel_rfl
attribute [go_sem] cz40 by40 Tryz.underlying40
attribute [go_sem] Tryz.eqGuardType40
theorem zr40 : zeroOf Tryz.prog 40 = some (ints .u64 (fun _ => 0) 17) := by kernel_rfl
attribute [go_sem] zr40
theorem cz41 : Tryz.prog.cellsOf 41 = 17 := by kernel_rfl
theorem by41 : Tryz.prog.bytesOf 41 = 136 := by kernel_rfl
attribute [go_sem] cz41 by41 Tryz.underlying41
attribute [go_sem] Tryz.eqGuardType41
theorem zr41 : zeroOf Tryz.prog 41 = some (ints .u64 (fun _ => 0) 17) := by kernel_rfl
attribute [go_sem] zr41
theorem cz42 : Tryz.prog.cellsOf 42 = 1 := by kernel_rfl
theorem by42 : Tryz.prog.bytesOf 42 = 8 := by kernel_rfl
attribute [go_sem] cz42 by42 Tryz.underlying42
theorem zr42 : zeroOf Tryz.prog 42 = some ([.raw .nilFunc]) := by kernel_rfl
attribute [go_sem] zr42
theorem cz43 : Tryz.prog.cellsOf 43 = 1 := by kernel_rfl
theorem by43 : Tryz.prog.bytesOf 43 = 8 := by kernel_rfl
attribute [go_sem] cz43 by43 Tryz.underlying43
theorem zr43 : zeroOf Tryz.prog 43 = some ([.raw .nilFunc]) := by kernel_rfl
attribute [go_sem] zr43
theorem cz44 : Tryz.prog.cellsOf 44 = 1 := by kernel_rfl
theorem by44 : Tryz.prog.bytesOf 44 = 8 := by kernel_rfl
attribute [go_sem] cz44 by44 Tryz.underlying44
theorem zr44 : zeroOf Tryz.prog 44 = some ([.raw .nilFunc]) := by kernel_rfl
attribute [go_sem] zr44
theorem cz45 : Tryz.prog.cellsOf 45 = 1 := by kernel_rfl
theorem by45 : Tryz.prog.bytesOf 45 = 8 := by kernel_rfl
attribute [go_sem] cz45 by45 Tryz.underlying45
theorem zr45 : zeroOf Tryz.prog 45 = some ([.raw .nilFunc]) := by kernel_rfl
attribute [go_sem] zr45
theorem cz46 : Tryz.prog.cellsOf 46 = 1 := by kernel_rfl
theorem by46 : Tryz.prog.bytesOf 46 = 8 := by kernel_rfl
attribute [go_sem] cz46 by46 Tryz.underlying46
theorem zr46 : zeroOf Tryz.prog 46 = some ([.raw .nilFunc]) := by kernel_rfl
attribute [go_sem] zr46
theorem cz47 : Tryz.prog.cellsOf 47 = 1 := by kernel_rfl
theorem by47 : Tryz.prog.bytesOf 47 = 8 := by kernel_rfl
attribute [go_sem] cz47 by47 Tryz.underlying47
theorem zr47 : zeroOf Tryz.prog 47 = some ([.raw .nilFunc]) := by kernel_rfl
attribute [go_sem] zr47
theorem cz49 : Tryz.prog.cellsOf 49 = 1 := by kernel_rfl
theorem by49 : Tryz.prog.bytesOf 49 = 8 := by kernel_rfl
attribute [go_sem] cz49 by49 Tryz.underlying49
theorem zr49 : zeroOf Tryz.prog 49 = some ([.raw .nilFunc]) := by kernel_rfl
attribute [go_sem] zr49
theorem cz50 : Tryz.prog.cellsOf 50 = 32 := by kernel_rfl
theorem by50 : Tryz.prog.bytesOf 50 = 32 := by kernel_rfl
attribute [go_sem] cz50 by50 Tryz.underlying50
attribute [go_sem] Tryz.eqGuardType50
theorem zr50 : zeroOf Tryz.prog 50 = some (ints .u8 (fun _ => 0) 32) := by kernel_rfl
attribute [go_sem] zr50
theorem cz51 : Tryz.prog.cellsOf 51 = 1 := by kernel_rfl
theorem by51 : Tryz.prog.bytesOf 51 = 8 := by kernel_rfl
attribute [go_sem] cz51 by51 Tryz.underlying51
theorem zr51 : zeroOf Tryz.prog 51 = some ([.raw .nilFunc]) := by kernel_rfl
attribute [go_sem] zr51
theorem cz52 : Tryz.prog.cellsOf 52 = 1 := by kernel_rfl
theorem by52 : Tryz.prog.bytesOf 52 = 8 := by kernel_rfl
attribute [go_sem] cz52 by52 Tryz.underlying52
theorem zr52 : zeroOf Tryz.prog 52 = some ([.raw .nilFunc]) := by kernel_rfl
attribute [go_sem] zr52
theorem cz53 : Tryz.prog.cellsOf 53 = 1 := by kernel_rfl
theorem by53 : Tryz.prog.bytesOf 53 = 8 := by kernel_rfl
attribute [go_sem] cz53 by53 Tryz.underlying53
theorem zr53 : zeroOf Tryz.prog 53 = some ([.raw .nilFunc]) := by kernel_rfl
attribute [go_sem] zr53
theorem cz54 : Tryz.prog.cellsOf 54 = 1 := by kernel_rfl
theorem by54 : Tryz.prog.bytesOf 54 = 8 := by kernel_rfl
attribute [go_sem] cz54 by54 Tryz.underlying54
theorem zr54 : zeroOf Tryz.prog 54 = some ([.raw .nilFunc]) := by kernel_rfl
attribute [go_sem] zr54
theorem cz55 : Tryz.prog.cellsOf 55 = 1 := by kernel_rfl
theorem by55 : Tryz.prog.bytesOf 55 = 8 := by kernel_rfl
attribute [go_sem] cz55 by55 Tryz.underlying55
theorem zr55 : zeroOf Tryz.prog 55 = some ([.raw .nilFunc]) := by kernel_rfl
attribute [go_sem] zr55
theorem cz56 : Tryz.prog.cellsOf 56 = 1 := by kernel_rfl
theorem by56 : Tryz.prog.bytesOf 56 = 8 := by kernel_rfl
attribute [go_sem] cz56 by56 Tryz.underlying56
theorem zr56 : zeroOf Tryz.prog 56 = some ([.raw .nilFunc]) := by kernel_rfl
attribute [go_sem] zr56
theorem cz57 : Tryz.prog.cellsOf 57 = 1 := by kernel_rfl
theorem by57 : Tryz.prog.bytesOf 57 = 8 := by kernel_rfl
attribute [go_sem] cz57 by57 Tryz.underlying57
theorem zr57 : zeroOf Tryz.prog 57 = some ([.int .u64 0]) := by kernel_rfl
attribute [go_sem] zr57
theorem cz58 : Tryz.prog.cellsOf 58 = 1 := by kernel_rfl
theorem by58 : Tryz.prog.bytesOf 58 = 8 := by kernel_rfl
attribute [go_sem] cz58 by58 Tryz.underlying58
theorem zr58 : zeroOf Tryz.prog 58 = some ([.raw .nilFunc]) := by kernel_rfl
attribute [go_sem] zr58
theorem cz59 : Tryz.prog.cellsOf 59 = 1 := by kernel_rfl
theorem by59 : Tryz.prog.bytesOf 59 = 8 := by kernel_rfl
attribute [go_sem] cz59 by59 Tryz.underlying59
theorem zr59 : zeroOf Tryz.prog 59 = some ([.int .i64 0]) := by kernel_rfl
attribute [go_sem] zr59
theorem cz61 : Tryz.prog.cellsOf 61 = 1 := by kernel_rfl
theorem by61 : Tryz.prog.bytesOf 61 = 8 := by kernel_rfl
attribute [go_sem] cz61 by61 Tryz.underlying61
theorem zr61 : zeroOf Tryz.prog 61 = some ([.raw .nilFunc]) := by kernel_rfl
attribute [go_sem] zr61
theorem cz62 : Tryz.prog.cellsOf 62 = 1 := by kernel_rfl
theorem by62 : Tryz.prog.bytesOf 62 = 8 := by kernel_rfl
attribute [go_sem] cz62 by62 Tryz.underlying62
theorem zr62 : zeroOf Tryz.prog 62 = some ([.raw .nilFunc]) := by kernel_rfl
attribute [go_sem] zr62
theorem cz63 : Tryz.prog.cellsOf 63 = 1 := by kernel_rfl
theorem by63 : Tryz.prog.bytesOf 63 = 8 := by kernel_rfl
attribute [go_sem] cz63 by63 Tryz.underlying63
theorem zr63 : zeroOf Tryz.prog 63 = some ([.raw .nilFunc]) := by kernel_rfl
attribute [go_sem] zr63
theorem cz64 : Tryz.prog.cellsOf 64 = 1 := by kernel_rfl
theorem by64 : Tryz.prog.bytesOf 64 = 24 := by kernel_rfl
attribute [go_sem] cz64 by64 Tryz.underlying64
theorem zr64 : zeroOf Tryz.prog 64 = some ([.raw (.slice none 0 0)]) := by kernel_rfl
attribute [go_sem] zr64
theorem cz65 : Tryz.prog.cellsOf 65 = 1 := by kernel_rfl
theorem by65 : Tryz.prog.bytesOf 65 = 8 := by kernel_rfl
attribute [go_sem] cz65 by65 Tryz.underlying65
theorem zr65 : zeroOf Tryz.prog 65 = some ([.raw .nilFunc]) := by kernel_rfl
attribute [go_sem] zr65
theorem cz67 : Tryz.prog.cellsOf 67 = 1 := by kernel_rfl
theorem by67 : Tryz.prog.bytesOf 67 = 8 := by kernel_rfl
attribute [go_sem] cz67 by67 Tryz.underlying67
theorem zr67 : zeroOf Tryz.prog 67 = some ([.raw .nilFunc]) := by kernel_rfl
attribute [go_sem] zr67
theorem cz68 : Tryz.prog.cellsOf 68 = 1 := by kernel_rfl
theorem by68 : Tryz.prog.bytesOf 68 = 8 := by kernel_rfl
attribute [go_sem] cz68 by68 Tryz.underlying68
theorem zr68 : zeroOf Tryz.prog 68 = some ([.raw .nilFunc]) := by kernel_rfl
attribute [go_sem] zr68
theorem cz69 : Tryz.prog.cellsOf 69 = 1 := by kernel_rfl
theorem by69 : Tryz.prog.bytesOf 69 = 8 := by kernel_rfl
attribute [go_sem] cz69 by69 Tryz.underlying69
theorem zr69 : zeroOf Tryz.prog 69 = some ([.raw .nilFunc]) := by kernel_rfl
attribute [go_sem] zr69
theorem cz71 : Tryz.prog.cellsOf 71 = 1 := by kernel_rfl
theorem by71 : Tryz.prog.bytesOf 71 = 8 := by kernel_rfl
attribute [go_sem] cz71 by71 Tryz.underlying71
theorem zr71 : zeroOf Tryz.prog 71 = some ([.raw .nilFunc]) := by kernel_rfl
attribute [go_sem] zr71
theorem cz72 : Tryz.prog.cellsOf 72 = 8 := by kernel_rfl
theorem by72 : Tryz.prog.bytesOf 72 = 64 := by kernel_rfl
attribute [go_sem] cz72 by72 Tryz.underlying72
attribute [go_sem] Tryz.eqGuardType72
theorem zr72 : zeroOf Tryz.prog 72 = some (ints .u64 (fun _ => 0) 8) := by kernel_rfl
attribute [go_sem] zr72
theorem cz73 : Tryz.prog.cellsOf 73 = 1 := by kernel_rfl
theorem by73 : Tryz.prog.bytesOf 73 = 8 := by kernel_rfl
attribute [go_sem] cz73 by73 Tryz.underlying73
theorem zr73 : zeroOf Tryz.prog 73 = some ([.raw .nilFunc]) := by kernel_rfl
attribute [go_sem] zr73
theorem cz74 : Tryz.prog.cellsOf 74 = 1 := by kernel_rfl
theorem by74 : Tryz.prog.bytesOf 74 = 24 := by kernel_rfl
attribute [go_sem] cz74 by74 Tryz.underlying74
theorem zr74 : zeroOf Tryz.prog 74 = some ([.raw (.slice none 0 0)]) := by kernel_rfl
attribute [go_sem] zr74
theorem cz76 : Tryz.prog.cellsOf 76 = 1 := by kernel_rfl
theorem by76 : Tryz.prog.bytesOf 76 = 8 := by kernel_rfl
attribute [go_sem] cz76 by76 Tryz.underlying76
theorem zr76 : zeroOf Tryz.prog 76 = some ([.raw .nilFunc]) := by kernel_rfl
attribute [go_sem] zr76
theorem cz77 : Tryz.prog.cellsOf 77 = 1 := by kernel_rfl
theorem by77 : Tryz.prog.bytesOf 77 = 8 := by kernel_rfl
attribute [go_sem] cz77 by77 Tryz.underlying77
theorem zr77 : zeroOf Tryz.prog 77 = some ([.raw .nilFunc]) := by kernel_rfl
attribute [go_sem] zr77
theorem cz78 : Tryz.prog.cellsOf 78 = 1 := by kernel_rfl
theorem by78 : Tryz.prog.bytesOf 78 = 8 := by kernel_rfl
attribute [go_sem] cz78 by78 Tryz.underlying78
theorem zr78 : zeroOf Tryz.prog 78 = some ([.raw (.pointer none)]) := by kernel_rfl
attribute [go_sem] zr78
theorem cz79 : Tryz.prog.cellsOf 79 = 1 := by kernel_rfl
theorem by79 : Tryz.prog.bytesOf 79 = 24 := by kernel_rfl
attribute [go_sem] cz79 by79 Tryz.underlying79
theorem zr79 : zeroOf Tryz.prog 79 = some ([.raw (.slice none 0 0)]) := by kernel_rfl
attribute [go_sem] zr79
theorem cz80 : Tryz.prog.cellsOf 80 = 2 := by kernel_rfl
theorem by80 : Tryz.prog.bytesOf 80 = 32 := by kernel_rfl
attribute [go_sem] cz80 by80 Tryz.underlying80
attribute [go_sem] Tryz.eqGuardType80
theorem zr80 : zeroOf Tryz.prog 80 = some ([.raw (.pointer none), .raw (.slice none 0 0)]) := by kernel_rfl
attribute [go_sem] zr80
theorem cz81 : Tryz.prog.cellsOf 81 = 2 := by kernel_rfl
theorem by81 : Tryz.prog.bytesOf 81 = 32 := by kernel_rfl
attribute [go_sem] cz81 by81 Tryz.underlying81
attribute [go_sem] Tryz.eqGuardType81
theorem zr81 : zeroOf Tryz.prog 81 = some ([.raw (.pointer none), .raw (.slice none 0 0)]) := by kernel_rfl
attribute [go_sem] zr81
theorem cz82 : Tryz.prog.cellsOf 82 = 1 := by kernel_rfl
theorem by82 : Tryz.prog.bytesOf 82 = 8 := by kernel_rfl
attribute [go_sem] cz82 by82 Tryz.underlying82
theorem zr82 : zeroOf Tryz.prog 82 = some ([.raw .nilFunc]) := by kernel_rfl
attribute [go_sem] zr82
theorem cz83 : Tryz.prog.cellsOf 83 = 1 := by kernel_rfl
theorem by83 : Tryz.prog.bytesOf 83 = 16 := by kernel_rfl
attribute [go_sem] cz83 by83 Tryz.underlying83
theorem zr83 : zeroOf Tryz.prog 83 = some ([.raw .nilIface]) := by kernel_rfl
attribute [go_sem] zr83
theorem cz84 : Tryz.prog.cellsOf 84 = 1 := by kernel_rfl
theorem by84 : Tryz.prog.bytesOf 84 = 16 := by kernel_rfl
attribute [go_sem] cz84 by84 Tryz.underlying84
theorem zr84 : zeroOf Tryz.prog 84 = some ([.raw .nilIface]) := by kernel_rfl
attribute [go_sem] zr84
theorem cz86 : Tryz.prog.cellsOf 86 = 1 := by kernel_rfl
theorem by86 : Tryz.prog.bytesOf 86 = 8 := by kernel_rfl
attribute [go_sem] cz86 by86 Tryz.underlying86
theorem zr86 : zeroOf Tryz.prog 86 = some ([.raw .nilFunc]) := by kernel_rfl
attribute [go_sem] zr86
theorem cz87 : Tryz.prog.cellsOf 87 = 1 := by kernel_rfl
theorem by87 : Tryz.prog.bytesOf 87 = 8 := by kernel_rfl
attribute [go_sem] cz87 by87 Tryz.underlying87
theorem zr87 : zeroOf Tryz.prog 87 = some ([.raw .nilFunc]) := by kernel_rfl
attribute [go_sem] zr87
theorem cz88 : Tryz.prog.cellsOf 88 = 1 := by kernel_rfl
theorem by88 : Tryz.prog.bytesOf 88 = 8 := by kernel_rfl
attribute [go_sem] cz88 by88 Tryz.underlying88
theorem zr88 : zeroOf Tryz.prog 88 = some ([.raw .nilFunc]) := by kernel_rfl
attribute [go_sem] zr88
theorem cz89 : Tryz.prog.cellsOf 89 = 1 := by kernel_rfl
theorem by89 : Tryz.prog.bytesOf 89 = 8 := by kernel_rfl
attribute [go_sem] cz89 by89 Tryz.underlying89
theorem zr89 : zeroOf Tryz.prog 89 = some ([.raw .nilFunc]) := by kernel_rfl
attribute [go_sem] zr89
theorem cz90 : Tryz.prog.cellsOf 90 = 1 := by kernel_rfl
theorem by90 : Tryz.prog.bytesOf 90 = 8 := by kernel_rfl
attribute [go_sem] cz90 by90 Tryz.underlying90
theorem zr90 : zeroOf Tryz.prog 90 = some ([.raw .nilFunc]) := by kernel_rfl
attribute [go_sem] zr90
theorem cz92 : Tryz.prog.cellsOf 92 = 1 := by kernel_rfl
theorem by92 : Tryz.prog.bytesOf 92 = 8 := by kernel_rfl
attribute [go_sem] cz92 by92 Tryz.underlying92
theorem zr92 : zeroOf Tryz.prog 92 = some ([.raw .nilFunc]) := by kernel_rfl
attribute [go_sem] zr92
theorem cz93 : Tryz.prog.cellsOf 93 = 1 := by kernel_rfl
theorem by93 : Tryz.prog.bytesOf 93 = 8 := by kernel_rfl
attribute [go_sem] cz93 by93 Tryz.underlying93
theorem zr93 : zeroOf Tryz.prog 93 = some ([.raw .nilFunc]) := by kernel_rfl
attribute [go_sem] zr93
theorem cz94 : Tryz.prog.cellsOf 94 = 1 := by kernel_rfl
theorem by94 : Tryz.prog.bytesOf 94 = 8 := by kernel_rfl
attribute [go_sem] cz94 by94 Tryz.underlying94
theorem zr94 : zeroOf Tryz.prog 94 = some ([.raw .nilFunc]) := by kernel_rfl
attribute [go_sem] zr94
theorem cz96 : Tryz.prog.cellsOf 96 = 1 := by kernel_rfl
theorem by96 : Tryz.prog.bytesOf 96 = 8 := by kernel_rfl
attribute [go_sem] cz96 by96 Tryz.underlying96
theorem zr96 : zeroOf Tryz.prog 96 = some ([.raw .nilFunc]) := by kernel_rfl
attribute [go_sem] zr96
theorem cz97 : Tryz.prog.cellsOf 97 = 1 := by kernel_rfl
theorem by97 : Tryz.prog.bytesOf 97 = 8 := by kernel_rfl
attribute [go_sem] cz97 by97 Tryz.underlying97
theorem zr97 : zeroOf Tryz.prog 97 = some ([.raw .nilFunc]) := by kernel_rfl
attribute [go_sem] zr97
theorem cz98 : Tryz.prog.cellsOf 98 = 1 := by kernel_rfl
theorem by98 : Tryz.prog.bytesOf 98 = 8 := by kernel_rfl
attribute [go_sem] cz98 by98 Tryz.underlying98
theorem zr98 : zeroOf Tryz.prog 98 = some ([.raw (.pointer none)]) := by kernel_rfl
attribute [go_sem] zr98
theorem cz100 : Tryz.prog.cellsOf 100 = 1 := by kernel_rfl
theorem by100 : Tryz.prog.bytesOf 100 = 8 := by kernel_rfl
attribute [go_sem] cz100 by100 Tryz.underlying100
theorem zr100 : zeroOf Tryz.prog 100 = some ([.raw .nilFunc]) := by kernel_rfl
attribute [go_sem] zr100
theorem cz101 : Tryz.prog.cellsOf 101 = 1 := by kernel_rfl
theorem by101 : Tryz.prog.bytesOf 101 = 8 := by kernel_rfl
attribute [go_sem] cz101 by101 Tryz.underlying101
theorem zr101 : zeroOf Tryz.prog 101 = some ([.raw .nilFunc]) := by kernel_rfl
attribute [go_sem] zr101
theorem cz102 : Tryz.prog.cellsOf 102 = 1 := by kernel_rfl
theorem by102 : Tryz.prog.bytesOf 102 = 8 := by kernel_rfl
attribute [go_sem] cz102 by102 Tryz.underlying102
theorem zr102 : zeroOf Tryz.prog 102 = some ([.raw .nilFunc]) := by kernel_rfl
attribute [go_sem] zr102
theorem cz103 : Tryz.prog.cellsOf 103 = 1 := by kernel_rfl
theorem by103 : Tryz.prog.bytesOf 103 = 8 := by kernel_rfl
attribute [go_sem] cz103 by103 Tryz.underlying103
theorem zr103 : zeroOf Tryz.prog 103 = some ([.raw .nilFunc]) := by kernel_rfl
attribute [go_sem] zr103
theorem cz104 : Tryz.prog.cellsOf 104 = 1 := by kernel_rfl
theorem by104 : Tryz.prog.bytesOf 104 = 8 := by kernel_rfl
attribute [go_sem] cz104 by104 Tryz.underlying104
theorem zr104 : zeroOf Tryz.prog 104 = some ([.raw .nilFunc]) := by kernel_rfl
attribute [go_sem] zr104
theorem cz105 : Tryz.prog.cellsOf 105 = 1 := by kernel_rfl
theorem by105 : Tryz.prog.bytesOf 105 = 8 := by kernel_rfl
attribute [go_sem] cz105 by105 Tryz.underlying105
theorem zr105 : zeroOf Tryz.prog 105 = some ([.raw .nilFunc]) := by kernel_rfl
attribute [go_sem] zr105
theorem cz106 : Tryz.prog.cellsOf 106 = 1 := by kernel_rfl
theorem by106 : Tryz.prog.bytesOf 106 = 8 := by kernel_rfl
attribute [go_sem] cz106 by106 Tryz.underlying106
theorem zr106 : zeroOf Tryz.prog 106 = some ([.raw .nilFunc]) := by kernel_rfl
attribute [go_sem] zr106
theorem cz107 : Tryz.prog.cellsOf 107 = 1 := by kernel_rfl
theorem by107 : Tryz.prog.bytesOf 107 = 8 := by kernel_rfl
attribute [go_sem] cz107 by107 Tryz.underlying107
theorem zr107 : zeroOf Tryz.prog 107 = some ([.raw .nilFunc]) := by kernel_rfl
attribute [go_sem] zr107
theorem cz108 : Tryz.prog.cellsOf 108 = 1 := by kernel_rfl
theorem by108 : Tryz.prog.bytesOf 108 = 8 := by kernel_rfl
attribute [go_sem] cz108 by108 Tryz.underlying108
theorem zr108 : zeroOf Tryz.prog 108 = some ([.raw .nilFunc]) := by kernel_rfl
attribute [go_sem] zr108
theorem cz109 : Tryz.prog.cellsOf 109 = 1 := by kernel_rfl
theorem by109 : Tryz.prog.bytesOf 109 = 8 := by kernel_rfl
attribute [go_sem] cz109 by109 Tryz.underlying109
theorem zr109 : zeroOf Tryz.prog 109 = some ([.raw (.pointer none)]) := by kernel_rfl
attribute [go_sem] zr109
theorem cz110 : Tryz.prog.cellsOf 110 = 1 := by kernel_rfl
theorem by110 : Tryz.prog.bytesOf 110 = 8 := by kernel_rfl
attribute [go_sem] cz110 by110 Tryz.underlying110
theorem zr110 : zeroOf Tryz.prog 110 = some ([.raw .nilFunc]) := by kernel_rfl
attribute [go_sem] zr110
theorem cz111 : Tryz.prog.cellsOf 111 = 1 := by kernel_rfl
theorem by111 : Tryz.prog.bytesOf 111 = 8 := by kernel_rfl
attribute [go_sem] cz111 by111 Tryz.underlying111
theorem zr111 : zeroOf Tryz.prog 111 = some ([.raw .nilFunc]) := by kernel_rfl
attribute [go_sem] zr111
theorem cz112 : Tryz.prog.cellsOf 112 = 1 := by kernel_rfl
theorem by112 : Tryz.prog.bytesOf 112 = 8 := by kernel_rfl
attribute [go_sem] cz112 by112 Tryz.underlying112
theorem zr112 : zeroOf Tryz.prog 112 = some ([.raw .nilFunc]) := by kernel_rfl
attribute [go_sem] zr112
theorem cz114 : Tryz.prog.cellsOf 114 = 1 := by kernel_rfl
theorem by114 : Tryz.prog.bytesOf 114 = 8 := by kernel_rfl
attribute [go_sem] cz114 by114 Tryz.underlying114
theorem zr114 : zeroOf Tryz.prog 114 = some ([.raw .nilFunc]) := by kernel_rfl
attribute [go_sem] zr114
theorem cz115 : Tryz.prog.cellsOf 115 = 1 := by kernel_rfl
theorem by115 : Tryz.prog.bytesOf 115 = 24 := by kernel_rfl
attribute [go_sem] cz115 by115 Tryz.underlying115
theorem zr115 : zeroOf Tryz.prog 115 = some ([.raw (.slice none 0 0)]) := by kernel_rfl
attribute [go_sem] zr115
theorem cz116 : Tryz.prog.cellsOf 116 = 1 := by kernel_rfl
theorem by116 : Tryz.prog.bytesOf 116 = 8 := by kernel_rfl
attribute [go_sem] cz116 by116 Tryz.underlying116
theorem zr116 : zeroOf Tryz.prog 116 = some ([.raw .nilFunc]) := by kernel_rfl
attribute [go_sem] zr116
theorem cz117 : Tryz.prog.cellsOf 117 = 1 := by kernel_rfl
theorem by117 : Tryz.prog.bytesOf 117 = 8 := by kernel_rfl
attribute [go_sem] cz117 by117 Tryz.underlying117
theorem zr117 : zeroOf Tryz.prog 117 = some ([.raw .nilFunc]) := by kernel_rfl
attribute [go_sem] zr117
theorem cz118 : Tryz.prog.cellsOf 118 = 256 := by kernel_rfl
theorem by118 : Tryz.prog.bytesOf 118 = 256 := by kernel_rfl
attribute [go_sem] cz118 by118 Tryz.underlying118
attribute [go_sem] Tryz.eqGuardType118
theorem zr118 : zeroOf Tryz.prog 118 = some (ints .u8 (fun _ => 0) 256) := by kernel_rfl
attribute [go_sem] zr118
theorem cz119 : Tryz.prog.cellsOf 119 = 2 := by kernel_rfl
theorem by119 : Tryz.prog.bytesOf 119 = 2 := by kernel_rfl
attribute [go_sem] cz119 by119 Tryz.underlying119
attribute [go_sem] Tryz.eqGuardType119
theorem zr119 : zeroOf Tryz.prog 119 = some ([.int .u8 0, .int .u8 0]) := by kernel_rfl
attribute [go_sem] zr119
theorem cz120 : Tryz.prog.cellsOf 120 = 2 := by kernel_rfl
theorem by120 : Tryz.prog.bytesOf 120 = 2 := by kernel_rfl
attribute [go_sem] cz120 by120 Tryz.underlying120
attribute [go_sem] Tryz.eqGuardType120
theorem zr120 : zeroOf Tryz.prog 120 = some ([.int .u8 0, .int .u8 0]) := by kernel_rfl
attribute [go_sem] zr120
theorem cz121 : Tryz.prog.cellsOf 121 = 32 := by kernel_rfl
theorem by121 : Tryz.prog.bytesOf 121 = 32 := by kernel_rfl
attribute [go_sem] cz121 by121 Tryz.underlying121
attribute [go_sem] Tryz.eqGuardType121
theorem zr121 : zeroOf Tryz.prog 121 = some (ints .u8 (fun _ => 0) 32) := by kernel_rfl
attribute [go_sem] zr121
theorem cz122 : Tryz.prog.cellsOf 122 = 1 := by kernel_rfl
theorem by122 : Tryz.prog.bytesOf 122 = 4 := by kernel_rfl
attribute [go_sem] cz122 by122 Tryz.underlying122
theorem zr122 : zeroOf Tryz.prog 122 = some ([.int .u32 0]) := by kernel_rfl
attribute [go_sem] zr122
theorem cz123 : Tryz.prog.cellsOf 123 = 1 := by kernel_rfl
theorem by123 : Tryz.prog.bytesOf 123 = 8 := by kernel_rfl
attribute [go_sem] cz123 by123 Tryz.underlying123
theorem zr123 : zeroOf Tryz.prog 123 = some ([.raw (.pointer none)]) := by kernel_rfl
attribute [go_sem] zr123
theorem cz124 : Tryz.prog.cellsOf 124 = 1 := by kernel_rfl
theorem by124 : Tryz.prog.bytesOf 124 = 8 := by kernel_rfl
attribute [go_sem] cz124 by124 Tryz.underlying124
theorem zr124 : zeroOf Tryz.prog 124 = some ([.raw .nilFunc]) := by kernel_rfl
attribute [go_sem] zr124
theorem cz125 : Tryz.prog.cellsOf 125 = 1 := by kernel_rfl
theorem by125 : Tryz.prog.bytesOf 125 = 8 := by kernel_rfl
attribute [go_sem] cz125 by125 Tryz.underlying125
theorem zr125 : zeroOf Tryz.prog 125 = some ([.raw .nilFunc]) := by kernel_rfl
attribute [go_sem] zr125
theorem cz126 : Tryz.prog.cellsOf 126 = 3 := by kernel_rfl
theorem by126 : Tryz.prog.bytesOf 126 = 12 := by kernel_rfl
attribute [go_sem] cz126 by126 Tryz.underlying126
attribute [go_sem] Tryz.eqGuardType126
theorem zr126 : zeroOf Tryz.prog 126 = some ([.int .i32 0, .int .i32 0, .int .i32 0]) := by kernel_rfl
attribute [go_sem] zr126
theorem cz127 : Tryz.prog.cellsOf 127 = 3 := by kernel_rfl
theorem by127 : Tryz.prog.bytesOf 127 = 12 := by kernel_rfl
attribute [go_sem] cz127 by127 Tryz.underlying127
attribute [go_sem] Tryz.eqGuardType127
theorem zr127 : zeroOf Tryz.prog 127 = some ([.int .i32 0, .int .i32 0, .int .i32 0]) := by kernel_rfl
attribute [go_sem] zr127
theorem cz128 : Tryz.prog.cellsOf 128 = 5 := by kernel_rfl
theorem by128 : Tryz.prog.bytesOf 128 = 20 := by kernel_rfl
attribute [go_sem] cz128 by128 Tryz.underlying128
attribute [go_sem] Tryz.eqGuardType128
theorem zr128 : zeroOf Tryz.prog 128 = some ([.int .u32 0, .int .u32 0, .int .i32 0, .int .i32 0, .int .i32 0]) := by kernel_rfl
attribute [go_sem] zr128
theorem cz129 : Tryz.prog.cellsOf 129 = 5 := by kernel_rfl
theorem by129 : Tryz.prog.bytesOf 129 = 20 := by kernel_rfl
attribute [go_sem] cz129 by129 Tryz.underlying129
attribute [go_sem] Tryz.eqGuardType129
theorem zr129 : zeroOf Tryz.prog 129 = some ([.int .u32 0, .int .u32 0, .int .i32 0, .int .i32 0, .int .i32 0]) := by kernel_rfl
attribute [go_sem] zr129
theorem cz130 : Tryz.prog.cellsOf 130 = 1 := by kernel_rfl
theorem by130 : Tryz.prog.bytesOf 130 = 8 := by kernel_rfl
attribute [go_sem] cz130 by130 Tryz.underlying130
theorem zr130 : zeroOf Tryz.prog 130 = some ([.raw (.pointer none)]) := by kernel_rfl
attribute [go_sem] zr130
theorem cz131 : Tryz.prog.cellsOf 131 = 4 := by kernel_rfl
theorem by131 : Tryz.prog.bytesOf 131 = 40 := by kernel_rfl
attribute [go_sem] cz131 by131 Tryz.underlying131
attribute [go_sem] Tryz.eqGuardType131
theorem zr131 : zeroOf Tryz.prog 131 = some ([.raw (.pointer none), .raw (.pointer none), .raw (.pointer none), .str ⟨#[]⟩]) := by kernel_rfl
attribute [go_sem] zr131
theorem cz132 : Tryz.prog.cellsOf 132 = 4 := by kernel_rfl
theorem by132 : Tryz.prog.bytesOf 132 = 40 := by kernel_rfl
attribute [go_sem] cz132 by132 Tryz.underlying132
attribute [go_sem] Tryz.eqGuardType132
theorem zr132 : zeroOf Tryz.prog 132 = some ([.raw (.pointer none), .raw (.pointer none), .raw (.pointer none), .str ⟨#[]⟩]) := by kernel_rfl
attribute [go_sem] zr132
theorem cz133 : Tryz.prog.cellsOf 133 = 0 := by kernel_rfl
theorem by133 : Tryz.prog.bytesOf 133 = 0 := by kernel_rfl
attribute [go_sem] cz133 by133 Tryz.underlying133
attribute [go_sem] Tryz.eqGuardType133
theorem zr133 : zeroOf Tryz.prog 133 = some ([]) := by kernel_rfl
attribute [go_sem] zr133
theorem cz134 : Tryz.prog.cellsOf 134 = 0 := by kernel_rfl
theorem by134 : Tryz.prog.bytesOf 134 = 0 := by kernel_rfl
attribute [go_sem] cz134 by134 Tryz.underlying134
attribute [go_sem] Tryz.eqGuardType134
theorem zr134 : zeroOf Tryz.prog 134 = some ([]) := by kernel_rfl
attribute [go_sem] zr134
theorem cz135 : Tryz.prog.cellsOf 135 = 0 := by kernel_rfl
theorem by135 : Tryz.prog.bytesOf 135 = 0 := by kernel_rfl
attribute [go_sem] cz135 by135 Tryz.underlying135
attribute [go_sem] Tryz.eqGuardType135
theorem zr135 : zeroOf Tryz.prog 135 = some ([]) := by kernel_rfl
attribute [go_sem] zr135
theorem cz136 : Tryz.prog.cellsOf 136 = 1 := by kernel_rfl
theorem by136 : Tryz.prog.bytesOf 136 = 1 := by kernel_rfl
attribute [go_sem] cz136 by136 Tryz.underlying136
theorem zr136 : zeroOf Tryz.prog 136 = some ([.int .u8 0]) := by kernel_rfl
attribute [go_sem] zr136
theorem cz137 : Tryz.prog.cellsOf 137 = 1 := by kernel_rfl
theorem by137 : Tryz.prog.bytesOf 137 = 1 := by kernel_rfl
attribute [go_sem] cz137 by137 Tryz.underlying137
theorem zr137 : zeroOf Tryz.prog 137 = some ([.int .u8 0]) := by kernel_rfl
attribute [go_sem] zr137
theorem cz138 : Tryz.prog.cellsOf 138 = 1 := by kernel_rfl
theorem by138 : Tryz.prog.bytesOf 138 = 8 := by kernel_rfl
attribute [go_sem] cz138 by138 Tryz.underlying138
theorem zr138 : zeroOf Tryz.prog 138 = some ([.raw .nilFunc]) := by kernel_rfl
attribute [go_sem] zr138
theorem cz139 : Tryz.prog.cellsOf 139 = 1 := by kernel_rfl
theorem by139 : Tryz.prog.bytesOf 139 = 4 := by kernel_rfl
attribute [go_sem] cz139 by139 Tryz.underlying139
theorem zr139 : zeroOf Tryz.prog 139 = some ([.int .i32 0]) := by kernel_rfl
attribute [go_sem] zr139
theorem cz140 : Tryz.prog.cellsOf 140 = 1 := by kernel_rfl
theorem by140 : Tryz.prog.bytesOf 140 = 4 := by kernel_rfl
attribute [go_sem] cz140 by140 Tryz.underlying140
theorem zr140 : zeroOf Tryz.prog 140 = some ([.int .i32 0]) := by kernel_rfl
attribute [go_sem] zr140
theorem cz141 : Tryz.prog.cellsOf 141 = 11 := by kernel_rfl
theorem by141 : Tryz.prog.bytesOf 141 = 48 := by kernel_rfl
attribute [go_sem] cz141 by141 Tryz.underlying141
attribute [go_sem] Tryz.eqGuardType141
theorem zr141 : zeroOf Tryz.prog 141 = some ([.int .u64 0, .int .u64 0, .int .u32 0, .int .u8 0, .int .u8 0, .int .u8 0, .int .u8 0, .raw .nilFunc, .raw (.pointer none), .int .i32 0, .int .i32 0]) := by kernel_rfl
attribute [go_sem] zr141
theorem cz142 : Tryz.prog.cellsOf 142 = 11 := by kernel_rfl
theorem by142 : Tryz.prog.bytesOf 142 = 48 := by kernel_rfl
attribute [go_sem] cz142 by142 Tryz.underlying142
attribute [go_sem] Tryz.eqGuardType142
theorem zr142 : zeroOf Tryz.prog 142 = some ([.int .u64 0, .int .u64 0, .int .u32 0, .int .u8 0, .int .u8 0, .int .u8 0, .int .u8 0, .raw .nilFunc, .raw (.pointer none), .int .i32 0, .int .i32 0]) := by kernel_rfl
attribute [go_sem] zr142
theorem cz143 : Tryz.prog.cellsOf 143 = 1 := by kernel_rfl
theorem by143 : Tryz.prog.bytesOf 143 = 16 := by kernel_rfl
attribute [go_sem] cz143 by143 Tryz.underlying143
attribute [go_sem] Tryz.eqGuardType143
theorem zr143 : zeroOf Tryz.prog 143 = some ([.str ⟨#[]⟩]) := by kernel_rfl
attribute [go_sem] zr143
theorem cz144 : Tryz.prog.cellsOf 144 = 1 := by kernel_rfl
theorem by144 : Tryz.prog.bytesOf 144 = 16 := by kernel_rfl
attribute [go_sem] cz144 by144 Tryz.underlying144
attribute [go_sem] Tryz.eqGuardType144
theorem zr144 : zeroOf Tryz.prog 144 = some ([.str ⟨#[]⟩]) := by kernel_rfl
attribute [go_sem] zr144
theorem en3 : Enters Tryz.prog 3 := fun args w => Tryz.call3 args w
theorem en4 : Enters Tryz.prog 4 := fun args w => Tryz.call4 args w
theorem en5 : Enters Tryz.prog 5 := fun args w => Tryz.call5 args w
theorem en6 : Enters Tryz.prog 6 := fun args w => Tryz.call6 args w
theorem en7 : Enters Tryz.prog 7 := fun args w => Tryz.call7 args w
theorem en8 : Enters Tryz.prog 8 := fun args w => Tryz.call8 args w
theorem en9 : Enters Tryz.prog 9 := fun args w => Tryz.call9 args w
theorem en10 : Enters Tryz.prog 10 := fun args w => Tryz.call10 args w
theorem en11 : Enters Tryz.prog 11 := fun args w => Tryz.call11 args w
theorem en12 : Enters Tryz.prog 12 := fun args w => Tryz.call12 args w
theorem en13 : Enters Tryz.prog 13 := fun args w => Tryz.call13 args w
theorem en14 : Enters Tryz.prog 14 := fun args w => Tryz.call14 args w
theorem en15 : Enters Tryz.prog 15 := fun args w => Tryz.call15 args w
theorem en16 : Enters Tryz.prog 16 := fun args w => Tryz.call16 args w
theorem en17 : Enters Tryz.prog 17 := fun args w => Tryz.call17 args w
theorem en18 : Enters Tryz.prog 18 := fun args w => Tryz.call18 args w
theorem en19 : Enters Tryz.prog 19 := fun args w => Tryz.call19 args w
theorem en20 : Enters Tryz.prog 20 := fun args w => Tryz.call20 args w
theorem en21 : Enters Tryz.prog 21 := fun args w => Tryz.call21 args w
theorem en22 : Enters Tryz.prog 22 := fun args w => Tryz.call22 args w
theorem en23 : Enters Tryz.prog 23 := fun args w => Tryz.call23 args w
theorem en24 : Enters Tryz.prog 24 := fun args w => Tryz.call24 args w
theorem en25 : Enters Tryz.prog 25 := fun args w => Tryz.call25 args w
theorem en26 : Enters Tryz.prog 26 := fun args w => Tryz.call26 args w
theorem en27 : Enters Tryz.prog 27 := fun args w => Tryz.call27 args w
theorem en28 : Enters Tryz.prog 28 := fun args w => Tryz.call28 args w
theorem en29 : Enters Tryz.prog 29 := fun args w => Tryz.call29 args w
theorem en30 : Enters Tryz.prog 30 := fun args w => Tryz.call30 args w
theorem en31 : Enters Tryz.prog 31 := fun args w => Tryz.call31 args w
theorem en32 : Enters Tryz.prog 32 := fun args w => Tryz.call32 args w
theorem en33 : Enters Tryz.prog 33 := fun args w => Tryz.call33 args w
theorem en34 : Enters Tryz.prog 34 := fun args w => Tryz.call34 args w
theorem en35 : Enters Tryz.prog 35 := fun args w => Tryz.call35 args w
theorem en36 : Enters Tryz.prog 36 := fun args w => Tryz.call36 args w
theorem en37 : Enters Tryz.prog 37 := fun args w => Tryz.call37 args w
theorem en38 : Enters Tryz.prog 38 := fun args w => Tryz.call38 args w
theorem en39 : Enters Tryz.prog 39 := fun args w => Tryz.call39 args w
theorem en40 : Enters Tryz.prog 40 := fun args w => Tryz.call40 args w
theorem en41 : Enters Tryz.prog 41 := fun args w => Tryz.call41 args w
theorem en42 : Enters Tryz.prog 42 := fun args w => Tryz.call42 args w
theorem en43 : Enters Tryz.prog 43 := fun args w => Tryz.call43 args w
theorem en44 : Enters Tryz.prog 44 := fun args w => Tryz.call44 args w
theorem en45 : Enters Tryz.prog 45 := fun args w => Tryz.call45 args w
theorem en46 : Enters Tryz.prog 46 := fun args w => Tryz.call46 args w
theorem en47 : Enters Tryz.prog 47 := fun args w => Tryz.call47 args w
theorem en48 : Enters Tryz.prog 48 := fun args w => Tryz.call48 args w
theorem en49 : Enters Tryz.prog 49 := fun args w => Tryz.call49 args w
theorem en50 : Enters Tryz.prog 50 := fun args w => Tryz.call50 args w
theorem en51 : Enters Tryz.prog 51 := fun args w => Tryz.call51 args w
theorem en52 : Enters Tryz.prog 52 := fun args w => Tryz.call52 args w
theorem en53 : Enters Tryz.prog 53 := fun args w => Tryz.call53 args w
theorem en54 : Enters Tryz.prog 54 := fun args w => Tryz.call54 args w
theorem en55 : Enters Tryz.prog 55 := fun args w => Tryz.call55 args w
theorem en56 : Enters Tryz.prog 56 := fun args w => Tryz.call56 args w
theorem en57 : Enters Tryz.prog 57 := fun args w => Tryz.call57 args w
theorem en58 : Enters Tryz.prog 58 := fun args w => Tryz.call58 args w
theorem en59 : Enters Tryz.prog 59 := fun args w => Tryz.call59 args w
theorem en60 : Enters Tryz.prog 60 := fun args w => Tryz.call60 args w
theorem en61 : Enters Tryz.prog 61 := fun args w => Tryz.call61 args w
theorem en62 : Enters Tryz.prog 62 := fun args w => Tryz.call62 args w
theorem en63 : Enters Tryz.prog 63 := fun args w => Tryz.call63 args w
theorem en64 : Enters Tryz.prog 64 := fun args w => Tryz.call64 args w
theorem en65 : Enters Tryz.prog 65 := fun args w => Tryz.call65 args w
theorem en66 : Enters Tryz.prog 66 := fun args w => Tryz.call66 args w
theorem en67 : Enters Tryz.prog 67 := fun args w => Tryz.call67 args w
theorem en68 : Enters Tryz.prog 68 := fun args w => Tryz.call68 args w
theorem en69 : Enters Tryz.prog 69 := fun args w => Tryz.call69 args w
theorem en70 : Enters Tryz.prog 70 := fun args w => Tryz.call70 args w
theorem en71 : Enters Tryz.prog 71 := fun args w => Tryz.call71 args w
theorem en72 : Enters Tryz.prog 72 := fun args w => Tryz.call72 args w
theorem en73 : Enters Tryz.prog 73 := fun args w => Tryz.call73 args w
theorem en74 : Enters Tryz.prog 74 := fun args w => Tryz.call74 args w
theorem en76 : Enters Tryz.prog 76 := fun args w => Tryz.call76 args w
theorem en78 : Enters Tryz.prog 78 := fun args w => Tryz.call78 args w
theorem en79 : Enters Tryz.prog 79 := fun args w => Tryz.call79 args w
theorem en80 : Enters Tryz.prog 80 := fun args w => Tryz.call80 args w
theorem en81 : Enters Tryz.prog 81 := fun args w => Tryz.call81 args w
theorem en82 : Enters Tryz.prog 82 := fun args w => Tryz.call82 args w
theorem en83 : Enters Tryz.prog 83 := fun args w => Tryz.call83 args w
theorem en84 : Enters Tryz.prog 84 := fun args w => Tryz.call84 args w
theorem en85 : Enters Tryz.prog 85 := fun args w => Tryz.call85 args w
theorem en86 : Enters Tryz.prog 86 := fun args w => Tryz.call86 args w
theorem en87 : Enters Tryz.prog 87 := fun args w => Tryz.call87 args w
theorem en88 : Enters Tryz.prog 88 := fun args w => Tryz.call88 args w
theorem en89 : Enters Tryz.prog 89 := fun args w => Tryz.call89 args w
theorem en90 : Enters Tryz.prog 90 := fun args w => Tryz.call90 args w
theorem en91 : Enters Tryz.prog 91 := fun args w => Tryz.call91 args w
theorem en92 : Enters Tryz.prog 92 := fun args w => Tryz.call92 args w
theorem en93 : Enters Tryz.prog 93 := fun args w => Tryz.call93 args w
theorem en97 : Enters Tryz.prog 97 := fun args w => Tryz.call97 args w
theorem en98 : Enters Tryz.prog 98 := fun args w => Tryz.call98 args w
theorem en99 : Enters Tryz.prog 99 := fun args w => Tryz.call99 args w
theorem en100 : Enters Tryz.prog 100 := fun args w => Tryz.call100 args w
theorem en101 : Enters Tryz.prog 101 := fun args w => Tryz.call101 args w
theorem en102 : Enters Tryz.prog 102 := fun args w => Tryz.call102 args w
theorem en103 : Enters Tryz.prog 103 := fun args w => Tryz.call103 args w
theorem en104 : Enters Tryz.prog 104 := fun args w => Tryz.call104 args w
theorem en105 : Enters Tryz.prog 105 := fun args w => Tryz.call105 args w
theorem mixed : Tryz.prog.follows .mixedOrders = true := by kernel_rfl
end Go.Proofs.YtbilnedgpgpanabGreatDoor
