/- Closed facts of the program's tables: sizes, zero values, types. Printed by gentab.py. -/
import Derived.Test.YthknokcfmpahcaaDoorProg
import Derived.Test.YthknokcfmpahcaaDoorEng3
import Derived.KernelRfl
set_option maxRecDepth 100000
namespace Go.Proofs.YthknokcfmpahcaaDoor
open Go Go.Ew
theorem cz1 : Tryd.prog.cellsOf 1 = 1 := by kernel_rfl
theorem by1 : Tryd.prog.bytesOf 1 = 8 := by kernel_rfl
attribute [go_sem] cz1 by1 Tryd.underlying1
theorem zr1 : zeroOf Tryd.prog 1 = some ([.raw .nilFunc]) := by kernel_rfl
attribute [go_sem] zr1
theorem cz2 : Tryd.prog.cellsOf 2 = 1 := by kernel_rfl
theorem by2 : Tryd.prog.bytesOf 2 = 8 := by kernel_rfl
attribute [go_sem] cz2 by2 Tryd.underlying2
theorem zr2 : zeroOf Tryd.prog 2 = some ([.int .i64 0]) := by kernel_rfl
attribute [go_sem] zr2
theorem cz3 : Tryd.prog.cellsOf 3 = 1 := by kernel_rfl
theorem by3 : Tryd.prog.bytesOf 3 = 8 := by kernel_rfl
attribute [go_sem] cz3 by3 Tryd.underlying3
theorem zr3 : zeroOf Tryd.prog 3 = some ([.int .i64 0]) := by kernel_rfl
attribute [go_sem] zr3
theorem cz4 : Tryd.prog.cellsOf 4 = 1 := by kernel_rfl
theorem by4 : Tryd.prog.bytesOf 4 = 1 := by kernel_rfl
attribute [go_sem] cz4 by4 Tryd.underlying4
theorem zr4 : zeroOf Tryd.prog 4 = some ([.bool false]) := by kernel_rfl
attribute [go_sem] zr4
theorem cz5 : Tryd.prog.cellsOf 5 = 1 := by kernel_rfl
theorem by5 : Tryd.prog.bytesOf 5 = 1 := by kernel_rfl
attribute [go_sem] cz5 by5 Tryd.underlying5
theorem zr5 : zeroOf Tryd.prog 5 = some ([.int .u8 0]) := by kernel_rfl
attribute [go_sem] zr5
theorem cz6 : Tryd.prog.cellsOf 6 = 1 := by kernel_rfl
theorem by6 : Tryd.prog.bytesOf 6 = 1 := by kernel_rfl
attribute [go_sem] cz6 by6 Tryd.underlying6
theorem zr6 : zeroOf Tryd.prog 6 = some ([.int .u8 0]) := by kernel_rfl
attribute [go_sem] zr6
theorem cz7 : Tryd.prog.cellsOf 7 = 4 := by kernel_rfl
theorem by7 : Tryd.prog.bytesOf 7 = 24 := by kernel_rfl
attribute [go_sem] cz7 by7 Tryd.underlying7
attribute [go_sem] Tryd.eqGuardType7
theorem zr7 : zeroOf Tryd.prog 7 = some ([.int .i64 0, .int .i64 0, .bool false, .int .u8 0]) := by kernel_rfl
attribute [go_sem] zr7
theorem cz8 : Tryd.prog.cellsOf 8 = 4 := by kernel_rfl
theorem by8 : Tryd.prog.bytesOf 8 = 24 := by kernel_rfl
attribute [go_sem] cz8 by8 Tryd.underlying8
attribute [go_sem] Tryd.eqGuardType8
theorem zr8 : zeroOf Tryd.prog 8 = some ([.int .i64 0, .int .i64 0, .bool false, .int .u8 0]) := by kernel_rfl
attribute [go_sem] zr8
theorem cz9 : Tryd.prog.cellsOf 9 = 1 := by kernel_rfl
theorem by9 : Tryd.prog.bytesOf 9 = 16 := by kernel_rfl
attribute [go_sem] cz9 by9 Tryd.underlying9
theorem zr9 : zeroOf Tryd.prog 9 = some ([.str ⟨#[]⟩]) := by kernel_rfl
attribute [go_sem] zr9
theorem cz10 : Tryd.prog.cellsOf 10 = 1 := by kernel_rfl
theorem by10 : Tryd.prog.bytesOf 10 = 16 := by kernel_rfl
attribute [go_sem] cz10 by10 Tryd.underlying10
theorem zr10 : zeroOf Tryd.prog 10 = some ([.str ⟨#[]⟩]) := by kernel_rfl
attribute [go_sem] zr10
theorem cz11 : Tryd.prog.cellsOf 11 = 1 := by kernel_rfl
theorem by11 : Tryd.prog.bytesOf 11 = 16 := by kernel_rfl
attribute [go_sem] cz11 by11 Tryd.underlying11
theorem zr11 : zeroOf Tryd.prog 11 = some ([.str ⟨#[]⟩]) := by kernel_rfl
attribute [go_sem] zr11
theorem cz12 : Tryd.prog.cellsOf 12 = 1 := by kernel_rfl
theorem by12 : Tryd.prog.bytesOf 12 = 8 := by kernel_rfl
attribute [go_sem] cz12 by12 Tryd.underlying12
theorem zr12 : zeroOf Tryd.prog 12 = some ([.int .u64 0]) := by kernel_rfl
attribute [go_sem] zr12
theorem cz13 : Tryd.prog.cellsOf 13 = 2 := by kernel_rfl
theorem by13 : Tryd.prog.bytesOf 13 = 24 := by kernel_rfl
attribute [go_sem] cz13 by13 Tryd.underlying13
attribute [go_sem] Tryd.eqGuardType13
theorem zr13 : zeroOf Tryd.prog 13 = some ([.str ⟨#[]⟩, .int .u64 0]) := by kernel_rfl
attribute [go_sem] zr13
theorem cz14 : Tryd.prog.cellsOf 14 = 2 := by kernel_rfl
theorem by14 : Tryd.prog.bytesOf 14 = 24 := by kernel_rfl
attribute [go_sem] cz14 by14 Tryd.underlying14
attribute [go_sem] Tryd.eqGuardType14
theorem zr14 : zeroOf Tryd.prog 14 = some ([.str ⟨#[]⟩, .int .u64 0]) := by kernel_rfl
attribute [go_sem] zr14
theorem cz15 : Tryd.prog.cellsOf 15 = 1 := by kernel_rfl
theorem by15 : Tryd.prog.bytesOf 15 = 8 := by kernel_rfl
attribute [go_sem] cz15 by15 Tryd.underlying15
theorem zr15 : zeroOf Tryd.prog 15 = some ([.raw (.pointer none)]) := by kernel_rfl
attribute [go_sem] zr15
theorem cz16 : Tryd.prog.cellsOf 16 = 1 := by kernel_rfl
theorem by16 : Tryd.prog.bytesOf 16 = 8 := by kernel_rfl
attribute [go_sem] cz16 by16 Tryd.underlying16
theorem zr16 : zeroOf Tryd.prog 16 = some ([.raw (.pointer none)]) := by kernel_rfl
attribute [go_sem] zr16
theorem cz17 : Tryd.prog.cellsOf 17 = 1 := by kernel_rfl
theorem by17 : Tryd.prog.bytesOf 17 = 8 := by kernel_rfl
attribute [go_sem] cz17 by17 Tryd.underlying17
theorem zr17 : zeroOf Tryd.prog 17 = some ([.raw (.pointer none)]) := by kernel_rfl
attribute [go_sem] zr17
theorem cz18 : Tryd.prog.cellsOf 18 = 1 := by kernel_rfl
theorem by18 : Tryd.prog.bytesOf 18 = 8 := by kernel_rfl
attribute [go_sem] cz18 by18 Tryd.underlying18
attribute [go_sem] Tryd.eqGuardType18
theorem zr18 : zeroOf Tryd.prog 18 = some ([.raw (.pointer none)]) := by kernel_rfl
attribute [go_sem] zr18
theorem cz19 : Tryd.prog.cellsOf 19 = 1 := by kernel_rfl
theorem by19 : Tryd.prog.bytesOf 19 = 8 := by kernel_rfl
attribute [go_sem] cz19 by19 Tryd.underlying19
attribute [go_sem] Tryd.eqGuardType19
theorem zr19 : zeroOf Tryd.prog 19 = some ([.raw (.pointer none)]) := by kernel_rfl
attribute [go_sem] zr19
theorem cz20 : Tryd.prog.cellsOf 20 = 1 := by kernel_rfl
theorem by20 : Tryd.prog.bytesOf 20 = 16 := by kernel_rfl
attribute [go_sem] cz20 by20 Tryd.underlying20
theorem zr20 : zeroOf Tryd.prog 20 = some ([.raw .nilIface]) := by kernel_rfl
attribute [go_sem] zr20
theorem cz21 : Tryd.prog.cellsOf 21 = 1 := by kernel_rfl
theorem by21 : Tryd.prog.bytesOf 21 = 4 := by kernel_rfl
attribute [go_sem] cz21 by21 Tryd.underlying21
theorem zr21 : zeroOf Tryd.prog 21 = some ([.int .i32 0]) := by kernel_rfl
attribute [go_sem] zr21
theorem cz22 : Tryd.prog.cellsOf 22 = 1 := by kernel_rfl
theorem by22 : Tryd.prog.bytesOf 22 = 8 := by kernel_rfl
attribute [go_sem] cz22 by22 Tryd.underlying22
theorem zr22 : zeroOf Tryd.prog 22 = some ([.int .u64 0]) := by kernel_rfl
attribute [go_sem] zr22
theorem cz23 : Tryd.prog.cellsOf 23 = 5 := by kernel_rfl
theorem by23 : Tryd.prog.bytesOf 23 = 48 := by kernel_rfl
attribute [go_sem] cz23 by23 Tryd.underlying23
attribute [go_sem] Tryd.eqGuardType23
theorem zr23 : zeroOf Tryd.prog 23 = some ([.str ⟨#[]⟩, .int .u64 0, .int .i64 0, .int .i64 0, .int .i64 0]) := by kernel_rfl
attribute [go_sem] zr23
theorem cz24 : Tryd.prog.cellsOf 24 = 5 := by kernel_rfl
theorem by24 : Tryd.prog.bytesOf 24 = 48 := by kernel_rfl
attribute [go_sem] cz24 by24 Tryd.underlying24
attribute [go_sem] Tryd.eqGuardType24
theorem zr24 : zeroOf Tryd.prog 24 = some ([.str ⟨#[]⟩, .int .u64 0, .int .i64 0, .int .i64 0, .int .i64 0]) := by kernel_rfl
attribute [go_sem] zr24
theorem cz26 : Tryd.prog.cellsOf 26 = 1 := by kernel_rfl
theorem by26 : Tryd.prog.bytesOf 26 = 8 := by kernel_rfl
attribute [go_sem] cz26 by26 Tryd.underlying26
theorem zr26 : zeroOf Tryd.prog 26 = some ([.raw .nilFunc]) := by kernel_rfl
attribute [go_sem] zr26
theorem cz27 : Tryd.prog.cellsOf 27 = 1 := by kernel_rfl
theorem by27 : Tryd.prog.bytesOf 27 = 8 := by kernel_rfl
attribute [go_sem] cz27 by27 Tryd.underlying27
theorem zr27 : zeroOf Tryd.prog 27 = some ([.raw .nilFunc]) := by kernel_rfl
attribute [go_sem] zr27
theorem cz28 : Tryd.prog.cellsOf 28 = 1 := by kernel_rfl
theorem by28 : Tryd.prog.bytesOf 28 = 8 := by kernel_rfl
attribute [go_sem] cz28 by28 Tryd.underlying28
theorem zr28 : zeroOf Tryd.prog 28 = some ([.raw .nilFunc]) := by kernel_rfl
attribute [go_sem] zr28
theorem cz29 : Tryd.prog.cellsOf 29 = 4 := by kernel_rfl
theorem by29 : Tryd.prog.bytesOf 29 = 32 := by kernel_rfl
attribute [go_sem] cz29 by29 Tryd.underlying29
attribute [go_sem] Tryd.eqGuardType29
theorem zr29 : zeroOf Tryd.prog 29 = some ([.int .u64 0, .int .u64 0, .int .u64 0, .int .u64 0]) := by kernel_rfl
attribute [go_sem] zr29
theorem cz30 : Tryd.prog.cellsOf 30 = 4 := by kernel_rfl
theorem by30 : Tryd.prog.bytesOf 30 = 32 := by kernel_rfl
attribute [go_sem] cz30 by30 Tryd.underlying30
attribute [go_sem] Tryd.eqGuardType30
theorem zr30 : zeroOf Tryd.prog 30 = some ([.int .u64 0, .int .u64 0, .int .u64 0, .int .u64 0]) := by kernel_rfl
attribute [go_sem] zr30
theorem cz31 : Tryd.prog.cellsOf 31 = 1 := by kernel_rfl
theorem by31 : Tryd.prog.bytesOf 31 = 8 := by kernel_rfl
attribute [go_sem] cz31 by31 Tryd.underlying31
theorem zr31 : zeroOf Tryd.prog 31 = some ([.int .i64 0]) := by kernel_rfl
attribute [go_sem] zr31
theorem cz33 : Tryd.prog.cellsOf 33 = 1 := by kernel_rfl
theorem by33 : Tryd.prog.bytesOf 33 = 8 := by kernel_rfl
attribute [go_sem] cz33 by33 Tryd.underlying33
theorem zr33 : zeroOf Tryd.prog 33 = some ([.raw .nilFunc]) := by kernel_rfl
attribute [go_sem] zr33
theorem cz35 : Tryd.prog.cellsOf 35 = 1 := by kernel_rfl
theorem by35 : Tryd.prog.bytesOf 35 = 8 := by kernel_rfl
attribute [go_sem] cz35 by35 Tryd.underlying35
theorem zr35 : zeroOf Tryd.prog 35 = some ([.raw .nilFunc]) := by kernel_rfl
attribute [go_sem] zr35
theorem cz36 : Tryd.prog.cellsOf 36 = 1 := by kernel_rfl
theorem by36 : Tryd.prog.bytesOf 36 = 8 := by kernel_rfl
attribute [go_sem] cz36 by36 Tryd.underlying36
theorem zr36 : zeroOf Tryd.prog 36 = some ([.raw .nilFunc]) := by kernel_rfl
attribute [go_sem] zr36
theorem cz37 : Tryd.prog.cellsOf 37 = 1 := by kernel_rfl
theorem by37 : Tryd.prog.bytesOf 37 = 8 := by kernel_rfl
attribute [go_sem] cz37 by37 Tryd.underlying37
theorem zr37 : zeroOf Tryd.prog 37 = some ([.raw .nilFunc]) := by kernel_rfl
attribute [go_sem] zr37
theorem cz39 : Tryd.prog.cellsOf 39 = 1 := by kernel_rfl
theorem by39 : Tryd.prog.bytesOf 39 = 8 := by kernel_rfl
attribute [go_sem] cz39 by39 Tryd.underlying39
theorem zr39 : zeroOf Tryd.prog 39 = some ([.raw .nilFunc]) := by kernel_rfl
attribute [go_sem] zr39
theorem cz40 : Tryd.prog.cellsOf 40 = 1 := by kernel_rfl
theorem by40 : Tryd.prog.bytesOf 40 = 8 := by kernel_rfl
attribute [go_sem] cz40 by40 Tryd.underlying40
theorem zr40 : zeroOf Tryd.prog 40 = some ([.raw .nilFunc]) := by kernel_rfl
attribute [go_sem] zr40
theorem cz41 : Tryd.prog.cellsOf 41 = 1 := by kernel_rfl
theorem by41 : Tryd.prog.bytesOf 41 = 24 := by kernel_rfl
attribute [go_sem] cz41 by41 Tryd.underlying41
theorem zr41 : zeroOf Tryd.prog 41 = some ([.raw (.slice none 0 0)]) := by kernel_rfl
attribute [go_sem] zr41
theorem cz42 : Tryd.prog.cellsOf 42 = 1 := by kernel_rfl
theorem by42 : Tryd.prog.bytesOf 42 = 8 := by kernel_rfl
attribute [go_sem] cz42 by42 Tryd.underlying42
theorem zr42 : zeroOf Tryd.prog 42 = some ([.raw .nilFunc]) := by kernel_rfl
attribute [go_sem] zr42
theorem cz43 : Tryd.prog.cellsOf 43 = 1 := by kernel_rfl
theorem by43 : Tryd.prog.bytesOf 43 = 24 := by kernel_rfl
attribute [go_sem] cz43 by43 Tryd.underlying43
theorem zr43 : zeroOf Tryd.prog 43 = some ([.raw (.slice none 0 0)]) := by kernel_rfl
attribute [go_sem] zr43
theorem cz44 : Tryd.prog.cellsOf 44 = 1 := by kernel_rfl
theorem by44 : Tryd.prog.bytesOf 44 = 8 := by kernel_rfl
attribute [go_sem] cz44 by44 Tryd.underlying44
theorem zr44 : zeroOf Tryd.prog 44 = some ([.raw .nilFunc]) := by kernel_rfl
attribute [go_sem] zr44
theorem cz45 : Tryd.prog.cellsOf 45 = 1 := by kernel_rfl
theorem by45 : Tryd.prog.bytesOf 45 = 8 := by kernel_rfl
attribute [go_sem] cz45 by45 Tryd.underlying45
theorem zr45 : zeroOf Tryd.prog 45 = some ([.raw .nilFunc]) := by kernel_rfl
attribute [go_sem] zr45
theorem cz46 : Tryd.prog.cellsOf 46 = 1 := by kernel_rfl
theorem by46 : Tryd.prog.bytesOf 46 = 8 := by kernel_rfl
attribute [go_sem] cz46 by46 Tryd.underlying46
theorem zr46 : zeroOf Tryd.prog 46 = some ([.raw .nilFunc]) := by kernel_rfl
attribute [go_sem] zr46
theorem cz47 : Tryd.prog.cellsOf 47 = 1 := by kernel_rfl
theorem by47 : Tryd.prog.bytesOf 47 = 8 := by kernel_rfl
attribute [go_sem] cz47 by47 Tryd.underlying47
theorem zr47 : zeroOf Tryd.prog 47 = some ([.raw .nilFunc]) := by kernel_rfl
attribute [go_sem] zr47
theorem cz48 : Tryd.prog.cellsOf 48 = 2 := by kernel_rfl
theorem by48 : Tryd.prog.bytesOf 48 = 16 := by kernel_rfl
attribute [go_sem] cz48 by48 Tryd.underlying48
attribute [go_sem] Tryd.eqGuardType48
theorem zr48 : zeroOf Tryd.prog 48 = some ([.int .i64 0, .int .u8 0]) := by kernel_rfl
attribute [go_sem] zr48
theorem cz49 : Tryd.prog.cellsOf 49 = 2 := by kernel_rfl
theorem by49 : Tryd.prog.bytesOf 49 = 16 := by kernel_rfl
attribute [go_sem] cz49 by49 Tryd.underlying49
attribute [go_sem] Tryd.eqGuardType49
theorem zr49 : zeroOf Tryd.prog 49 = some ([.int .i64 0, .int .u8 0]) := by kernel_rfl
attribute [go_sem] zr49
theorem cz50 : Tryd.prog.cellsOf 50 = 1 := by kernel_rfl
theorem by50 : Tryd.prog.bytesOf 50 = 24 := by kernel_rfl
attribute [go_sem] cz50 by50 Tryd.underlying50
theorem zr50 : zeroOf Tryd.prog 50 = some ([.raw (.slice none 0 0)]) := by kernel_rfl
attribute [go_sem] zr50
theorem cz51 : Tryd.prog.cellsOf 51 = 1 := by kernel_rfl
theorem by51 : Tryd.prog.bytesOf 51 = 8 := by kernel_rfl
attribute [go_sem] cz51 by51 Tryd.underlying51
theorem zr51 : zeroOf Tryd.prog 51 = some ([.raw .nilFunc]) := by kernel_rfl
attribute [go_sem] zr51
theorem cz52 : Tryd.prog.cellsOf 52 = 1 := by kernel_rfl
theorem by52 : Tryd.prog.bytesOf 52 = 8 := by kernel_rfl
attribute [go_sem] cz52 by52 Tryd.underlying52
theorem zr52 : zeroOf Tryd.prog 52 = some ([.raw .nilFunc]) := by kernel_rfl
attribute [go_sem] zr52
theorem cz53 : Tryd.prog.cellsOf 53 = 1 := by kernel_rfl
theorem by53 : Tryd.prog.bytesOf 53 = 8 := by kernel_rfl
attribute [go_sem] cz53 by53 Tryd.underlying53
theorem zr53 : zeroOf Tryd.prog 53 = some ([.raw .nilFunc]) := by kernel_rfl
attribute [go_sem] zr53
theorem cz54 : Tryd.prog.cellsOf 54 = 1 := by kernel_rfl
theorem by54 : Tryd.prog.bytesOf 54 = 8 := by kernel_rfl
attribute [go_sem] cz54 by54 Tryd.underlying54
theorem zr54 : zeroOf Tryd.prog 54 = some ([.raw .nilFunc]) := by kernel_rfl
attribute [go_sem] zr54
theorem cz55 : Tryd.prog.cellsOf 55 = 1 := by kernel_rfl
theorem by55 : Tryd.prog.bytesOf 55 = 8 := by kernel_rfl
attribute [go_sem] cz55 by55 Tryd.underlying55
theorem zr55 : zeroOf Tryd.prog 55 = some ([.raw .nilFunc]) := by kernel_rfl
attribute [go_sem] zr55
theorem cz56 : Tryd.prog.cellsOf 56 = 1 := by kernel_rfl
theorem by56 : Tryd.prog.bytesOf 56 = 8 := by kernel_rfl
attribute [go_sem] cz56 by56 Tryd.underlying56
theorem zr56 : zeroOf Tryd.prog 56 = some ([.raw .nilFunc]) := by kernel_rfl
attribute [go_sem] zr56
theorem cz57 : Tryd.prog.cellsOf 57 = 1 := by kernel_rfl
theorem by57 : Tryd.prog.bytesOf 57 = 24 := by kernel_rfl
attribute [go_sem] cz57 by57 Tryd.underlying57
theorem zr57 : zeroOf Tryd.prog 57 = some ([.raw (.slice none 0 0)]) := by kernel_rfl
attribute [go_sem] zr57
theorem cz58 : Tryd.prog.cellsOf 58 = 1 := by kernel_rfl
theorem by58 : Tryd.prog.bytesOf 58 = 8 := by kernel_rfl
attribute [go_sem] cz58 by58 Tryd.underlying58
theorem zr58 : zeroOf Tryd.prog 58 = some ([.raw .nilFunc]) := by kernel_rfl
attribute [go_sem] zr58
theorem cz59 : Tryd.prog.cellsOf 59 = 1 := by kernel_rfl
theorem by59 : Tryd.prog.bytesOf 59 = 8 := by kernel_rfl
attribute [go_sem] cz59 by59 Tryd.underlying59
theorem zr59 : zeroOf Tryd.prog 59 = some ([.raw .nilFunc]) := by kernel_rfl
attribute [go_sem] zr59
theorem cz60 : Tryd.prog.cellsOf 60 = 1 := by kernel_rfl
theorem by60 : Tryd.prog.bytesOf 60 = 8 := by kernel_rfl
attribute [go_sem] cz60 by60 Tryd.underlying60
theorem zr60 : zeroOf Tryd.prog 60 = some ([.raw .nilFunc]) := by kernel_rfl
attribute [go_sem] zr60
theorem cz61 : Tryd.prog.cellsOf 61 = 1 := by kernel_rfl
theorem by61 : Tryd.prog.bytesOf 61 = 8 := by kernel_rfl
attribute [go_sem] cz61 by61 Tryd.underlying61
theorem zr61 : zeroOf Tryd.prog 61 = some ([.raw .nilFunc]) := by kernel_rfl
attribute [go_sem] zr61
theorem cz62 : Tryd.prog.cellsOf 62 = 1 := by kernel_rfl
theorem by62 : Tryd.prog.bytesOf 62 = 8 := by kernel_rfl
attribute [go_sem] cz62 by62 Tryd.underlying62
theorem zr62 : zeroOf Tryd.prog 62 = some ([.raw .nilFunc]) := by kernel_rfl
attribute [go_sem] zr62
theorem cz63 : Tryd.prog.cellsOf 63 = 1 := by kernel_rfl
theorem by63 : Tryd.prog.bytesOf 63 = 8 := by kernel_rfl
attribute [go_sem] cz63 by63 Tryd.underlying63
theorem zr63 : zeroOf Tryd.prog 63 = some ([.raw .nilFunc]) := by kernel_rfl
attribute [go_sem] zr63
theorem cz64 : Tryd.prog.cellsOf 64 = 1 := by kernel_rfl
theorem by64 : Tryd.prog.bytesOf 64 = 8 := by kernel_rfl
attribute [go_sem] cz64 by64 Tryd.underlying64
theorem zr64 : zeroOf Tryd.prog 64 = some ([.raw .nilFunc]) := by kernel_rfl
attribute [go_sem] zr64
theorem cz66 : Tryd.prog.cellsOf 66 = 1 := by kernel_rfl
theorem by66 : Tryd.prog.bytesOf 66 = 8 := by kernel_rfl
attribute [go_sem] cz66 by66 Tryd.underlying66
theorem zr66 : zeroOf Tryd.prog 66 = some ([.raw .nilFunc]) := by kernel_rfl
attribute [go_sem] zr66
theorem cz67 : Tryd.prog.cellsOf 67 = 1 := by kernel_rfl
theorem by67 : Tryd.prog.bytesOf 67 = 8 := by kernel_rfl
attribute [go_sem] cz67 by67 Tryd.underlying67
theorem zr67 : zeroOf Tryd.prog 67 = some ([.raw .nilFunc]) := by kernel_rfl
attribute [go_sem] zr67
theorem cz68 : Tryd.prog.cellsOf 68 = 1 := by kernel_rfl
theorem by68 : Tryd.prog.bytesOf 68 = 8 := by kernel_rfl
attribute [go_sem] cz68 by68 Tryd.underlying68
theorem zr68 : zeroOf Tryd.prog 68 = some ([.raw .nilFunc]) := by kernel_rfl
attribute [go_sem] zr68
theorem cz69 : Tryd.prog.cellsOf 69 = 1 := by kernel_rfl
theorem by69 : Tryd.prog.bytesOf 69 = 8 := by kernel_rfl
attribute [go_sem] cz69 by69 Tryd.underlying69
theorem zr69 : zeroOf Tryd.prog 69 = some ([.raw .nilFunc]) := by kernel_rfl
attribute [go_sem] zr69
theorem cz70 : Tryd.prog.cellsOf 70 = 1 := by kernel_rfl
theorem by70 : Tryd.prog.bytesOf 70 = 8 := by kernel_rfl
attribute [go_sem] cz70 by70 Tryd.underlying70
theorem zr70 : zeroOf Tryd.prog 70 = some ([.raw .nilFunc]) := by kernel_rfl
attribute [go_sem] zr70
theorem cz71 : Tryd.prog.cellsOf 71 = 1 := by kernel_rfl
theorem by71 : Tryd.prog.bytesOf 71 = 8 := by kernel_rfl
attribute [go_sem] cz71 by71 Tryd.underlying71
theorem zr71 : zeroOf Tryd.prog 71 = some ([.raw .nilFunc]) := by kernel_rfl
attribute [go_sem] zr71
theorem cz72 : Tryd.prog.cellsOf 72 = 1 := by kernel_rfl
theorem by72 : Tryd.prog.bytesOf 72 = 8 := by kernel_rfl
attribute [go_sem] cz72 by72 Tryd.underlying72
theorem zr72 : zeroOf Tryd.prog 72 = some ([.raw .nilFunc]) := by kernel_rfl
attribute [go_sem] zr72
theorem cz73 : Tryd.prog.cellsOf 73 = 1 := by kernel_rfl
theorem by73 : Tryd.prog.bytesOf 73 = 8 := by kernel_rfl
attribute [go_sem] cz73 by73 Tryd.underlying73
theorem zr73 : zeroOf Tryd.prog 73 = some ([.raw .nilFunc]) := by kernel_rfl
attribute [go_sem] zr73
theorem cz74 : Tryd.prog.cellsOf 74 = 1 := by kernel_rfl
theorem by74 : Tryd.prog.bytesOf 74 = 8 := by kernel_rfl
attribute [go_sem] cz74 by74 Tryd.underlying74
theorem zr74 : zeroOf Tryd.prog 74 = some ([.raw .nilFunc]) := by kernel_rfl
attribute [go_sem] zr74
theorem cz75 : Tryd.prog.cellsOf 75 = 1 := by kernel_rfl
theorem by75 : Tryd.prog.bytesOf 75 = 8 := by kernel_rfl
attribute [go_sem] cz75 by75 Tryd.underlying75
theorem zr75 : zeroOf Tryd.prog 75 = some ([.raw .nilFunc]) := by kernel_rfl
attribute [go_sem] zr75
theorem cz76 : Tryd.prog.cellsOf 76 = 1 := by kernel_rfl
theorem by76 : Tryd.prog.bytesOf 76 = 24 := by kernel_rfl
attribute [go_sem] cz76 by76 Tryd.underlying76
theorem zr76 : zeroOf Tryd.prog 76 = some ([.raw (.slice none 0 0)]) := by kernel_rfl
attribute [go_sem] zr76
theorem cz77 : Tryd.prog.cellsOf 77 = 1 := by kernel_rfl
theorem by77 : Tryd.prog.bytesOf 77 = 8 := by kernel_rfl
attribute [go_sem] cz77 by77 Tryd.underlying77
theorem zr77 : zeroOf Tryd.prog 77 = some ([.raw .nilFunc]) := by kernel_rfl
attribute [go_sem] zr77
theorem cz78 : Tryd.prog.cellsOf 78 = 5 := by kernel_rfl
theorem by78 : Tryd.prog.bytesOf 78 = 48 := by kernel_rfl
attribute [go_sem] cz78 by78 Tryd.underlying78
attribute [go_sem] Tryd.eqGuardType78
theorem zr78 : zeroOf Tryd.prog 78 = some ([.int .i64 0, .str ⟨#[]⟩, .int .u64 0, .int .i64 0, .int .i64 0]) := by kernel_rfl
attribute [go_sem] zr78
theorem cz79 : Tryd.prog.cellsOf 79 = 5 := by kernel_rfl
theorem by79 : Tryd.prog.bytesOf 79 = 48 := by kernel_rfl
attribute [go_sem] cz79 by79 Tryd.underlying79
attribute [go_sem] Tryd.eqGuardType79
theorem zr79 : zeroOf Tryd.prog 79 = some ([.int .i64 0, .str ⟨#[]⟩, .int .u64 0, .int .i64 0, .int .i64 0]) := by kernel_rfl
attribute [go_sem] zr79
theorem cz81 : Tryd.prog.cellsOf 81 = 1 := by kernel_rfl
theorem by81 : Tryd.prog.bytesOf 81 = 8 := by kernel_rfl
attribute [go_sem] cz81 by81 Tryd.underlying81
theorem zr81 : zeroOf Tryd.prog 81 = some ([.raw .nilFunc]) := by kernel_rfl
attribute [go_sem] zr81
theorem cz83 : Tryd.prog.cellsOf 83 = 1 := by kernel_rfl
theorem by83 : Tryd.prog.bytesOf 83 = 8 := by kernel_rfl
attribute [go_sem] cz83 by83 Tryd.underlying83
theorem zr83 : zeroOf Tryd.prog 83 = some ([.raw .nilFunc]) := by kernel_rfl
attribute [go_sem] zr83
theorem cz84 : Tryd.prog.cellsOf 84 = 1 := by kernel_rfl
theorem by84 : Tryd.prog.bytesOf 84 = 8 := by kernel_rfl
attribute [go_sem] cz84 by84 Tryd.underlying84
theorem zr84 : zeroOf Tryd.prog 84 = some ([.raw .nilFunc]) := by kernel_rfl
attribute [go_sem] zr84
theorem cz85 : Tryd.prog.cellsOf 85 = 1 := by kernel_rfl
theorem by85 : Tryd.prog.bytesOf 85 = 8 := by kernel_rfl
attribute [go_sem] cz85 by85 Tryd.underlying85
theorem zr85 : zeroOf Tryd.prog 85 = some ([.raw .nilFunc]) := by kernel_rfl
attribute [go_sem] zr85
theorem cz86 : Tryd.prog.cellsOf 86 = 1 := by kernel_rfl
theorem by86 : Tryd.prog.bytesOf 86 = 8 := by kernel_rfl
attribute [go_sem] cz86 by86 Tryd.underlying86
theorem zr86 : zeroOf Tryd.prog 86 = some ([.raw .nilFunc]) := by kernel_rfl
attribute [go_sem] zr86
theorem cz87 : Tryd.prog.cellsOf 87 = 1 := by kernel_rfl
theorem by87 : Tryd.prog.bytesOf 87 = 8 := by kernel_rfl
attribute [go_sem] cz87 by87 Tryd.underlying87
theorem zr87 : zeroOf Tryd.prog 87 = some ([.raw .nilFunc]) := by kernel_rfl
attribute [go_sem] zr87
theorem cz88 : Tryd.prog.cellsOf 88 = 1 := by kernel_rfl
theorem by88 : Tryd.prog.bytesOf 88 = 8 := by kernel_rfl
attribute [go_sem] cz88 by88 Tryd.underlying88
theorem zr88 : zeroOf Tryd.prog 88 = some ([.raw .nilFunc]) := by kernel_rfl
attribute [go_sem] zr88
theorem cz89 : Tryd.prog.cellsOf 89 = 1 := by kernel_rfl
theorem by89 : Tryd.prog.bytesOf 89 = 8 := by kernel_rfl
attribute [go_sem] cz89 by89 Tryd.underlying89
theorem zr89 : zeroOf Tryd.prog 89 = some ([.raw .nilFunc]) := by kernel_rfl
attribute [go_sem] zr89
theorem cz90 : Tryd.prog.cellsOf 90 = 1 := by kernel_rfl
theorem by90 : Tryd.prog.bytesOf 90 = 8 := by kernel_rfl
attribute [go_sem] cz90 by90 Tryd.underlying90
theorem zr90 : zeroOf Tryd.prog 90 = some ([.raw .nilFunc]) := by kernel_rfl
attribute [go_sem] zr90
theorem cz91 : Tryd.prog.cellsOf 91 = 1 := by kernel_rfl
theorem by91 : Tryd.prog.bytesOf 91 = 8 := by kernel_rfl
attribute [go_sem] cz91 by91 Tryd.underlying91
theorem zr91 : zeroOf Tryd.prog 91 = some ([.raw .nilFunc]) := by kernel_rfl
attribute [go_sem] zr91
theorem cz92 : Tryd.prog.cellsOf 92 = 1 := by kernel_rfl
theorem by92 : Tryd.prog.bytesOf 92 = 8 := by kernel_rfl
attribute [go_sem] cz92 by92 Tryd.underlying92
theorem zr92 : zeroOf Tryd.prog 92 = some ([.raw .nilFunc]) := by kernel_rfl
attribute [go_sem] zr92
theorem cz93 : Tryd.prog.cellsOf 93 = 1 := by kernel_rfl
theorem by93 : Tryd.prog.bytesOf 93 = 24 := by kernel_rfl
attribute [go_sem] cz93 by93 Tryd.underlying93
theorem zr93 : zeroOf Tryd.prog 93 = some ([.raw (.slice none 0 0)]) := by kernel_rfl
attribute [go_sem] zr93
theorem cz94 : Tryd.prog.cellsOf 94 = 1 := by kernel_rfl
theorem by94 : Tryd.prog.bytesOf 94 = 24 := by kernel_rfl
attribute [go_sem] cz94 by94 Tryd.underlying94
theorem zr94 : zeroOf Tryd.prog 94 = some ([.raw (.slice none 0 0)]) := by kernel_rfl
attribute [go_sem] zr94
theorem cz96 : Tryd.prog.cellsOf 96 = 1 := by kernel_rfl
theorem by96 : Tryd.prog.bytesOf 96 = 8 := by kernel_rfl
attribute [go_sem] cz96 by96 Tryd.underlying96
theorem zr96 : zeroOf Tryd.prog 96 = some ([.raw .nilFunc]) := by kernel_rfl
attribute [go_sem] zr96
theorem cz97 : Tryd.prog.cellsOf 97 = 1 := by kernel_rfl
theorem by97 : Tryd.prog.bytesOf 97 = 8 := by kernel_rfl
attribute [go_sem] cz97 by97 Tryd.underlying97
theorem zr97 : zeroOf Tryd.prog 97 = some ([.raw .nilFunc]) := by kernel_rfl
attribute [go_sem] zr97
theorem cz98 : Tryd.prog.cellsOf 98 = 1 := by kernel_rfl
theorem by98 : Tryd.prog.bytesOf 98 = 8 := by kernel_rfl
attribute [go_sem] cz98 by98 Tryd.underlying98
theorem zr98 : zeroOf Tryd.prog 98 = some ([.raw .nilFunc]) := by kernel_rfl
attribute [go_sem] zr98
theorem cz99 : Tryd.prog.cellsOf 99 = 17 := by kernel_rfl
theorem by99 : Tryd.prog.bytesOf 99 = 136 := by kernel_rfl
attribute [go_sem] cz99 by99 Tryd.underlying99
attribute [go_sem] Tryd.eqGuardType99
theorem zr99 : zeroOf Tryd.prog 99 = some (ints .u64 (fun _ => 0) 17) := by kernel_rfl
attribute [go_sem] zr99
theorem cz100 : Tryd.prog.cellsOf 100 = 17 := by kernel_rfl
theorem by100 : Tryd.prog.bytesOf 100 = 136 := by kernel_rfl
attribute [go_sem] cz100 by100 Tryd.underlying100
attribute [go_sem] Tryd.eqGuardType100
theorem zr100 : zeroOf Tryd.prog 100 = some (ints .u64 (fun _ => 0) 17) := by kernel_rfl
attribute [go_sem] zr100
theorem cz101 : Tryd.prog.cellsOf 101 = 1 := by kernel_rfl
theorem by101 : Tryd.prog.bytesOf 101 = 8 := by kernel_rfl
attribute [go_sem] cz101 by101 Tryd.underlying101
theorem zr101 : zeroOf Tryd.prog 101 = some ([.raw .nilFunc]) := by kernel_rfl
attribute [go_sem] zr101
theorem cz102 : Tryd.prog.cellsOf 102 = 1 := by kernel_rfl
theorem by102 : Tryd.prog.bytesOf 102 = 8 := by kernel_rfl
attribute [go_sem] cz102 by102 Tryd.underlying102
theorem zr102 : zeroOf Tryd.prog 102 = some ([.raw .nilFunc]) := by kernel_rfl
attribute [go_sem] zr102
theorem cz103 : Tryd.prog.cellsOf 103 = 32 := by kernel_rfl
theorem by103 : Tryd.prog.bytesOf 103 = 32 := by kernel_rfl
attribute [go_sem] cz103 by103 Tryd.underlying103
attribute [go_sem] Tryd.eqGuardType103
theorem zr103 : zeroOf Tryd.prog 103 = some (ints .u8 (fun _ => 0) 32) := by kernel_rfl
attribute [go_sem] zr103
theorem cz104 : Tryd.prog.cellsOf 104 = 1 := by kernel_rfl
theorem by104 : Tryd.prog.bytesOf 104 = 8 := by kernel_rfl
attribute [go_sem] cz104 by104 Tryd.underlying104
theorem zr104 : zeroOf Tryd.prog 104 = some ([.raw .nilFunc]) := by kernel_rfl
attribute [go_sem] zr104
theorem cz105 : Tryd.prog.cellsOf 105 = 1 := by kernel_rfl
theorem by105 : Tryd.prog.bytesOf 105 = 8 := by kernel_rfl
attribute [go_sem] cz105 by105 Tryd.underlying105
theorem zr105 : zeroOf Tryd.prog 105 = some ([.raw .nilFunc]) := by kernel_rfl
attribute [go_sem] zr105
theorem cz106 : Tryd.prog.cellsOf 106 = 1 := by kernel_rfl
theorem by106 : Tryd.prog.bytesOf 106 = 8 := by kernel_rfl
attribute [go_sem] cz106 by106 Tryd.underlying106
theorem zr106 : zeroOf Tryd.prog 106 = some ([.int .u64 0]) := by kernel_rfl
attribute [go_sem] zr106
theorem cz107 : Tryd.prog.cellsOf 107 = 24 := by kernel_rfl
theorem by107 : Tryd.prog.bytesOf 107 = 24 := by kernel_rfl
attribute [go_sem] cz107 by107 Tryd.underlying107
attribute [go_sem] Tryd.eqGuardType107
theorem zr107 : zeroOf Tryd.prog 107 = some (ints .u8 (fun _ => 0) 24) := by kernel_rfl
attribute [go_sem] zr107
theorem cz108 : Tryd.prog.cellsOf 108 = 1 := by kernel_rfl
theorem by108 : Tryd.prog.bytesOf 108 = 8 := by kernel_rfl
attribute [go_sem] cz108 by108 Tryd.underlying108
theorem zr108 : zeroOf Tryd.prog 108 = some ([.raw .nilFunc]) := by kernel_rfl
attribute [go_sem] zr108
theorem cz110 : Tryd.prog.cellsOf 110 = 1 := by kernel_rfl
theorem by110 : Tryd.prog.bytesOf 110 = 8 := by kernel_rfl
attribute [go_sem] cz110 by110 Tryd.underlying110
theorem zr110 : zeroOf Tryd.prog 110 = some ([.raw .nilFunc]) := by kernel_rfl
attribute [go_sem] zr110
theorem cz111 : Tryd.prog.cellsOf 111 = 1 := by kernel_rfl
theorem by111 : Tryd.prog.bytesOf 111 = 8 := by kernel_rfl
attribute [go_sem] cz111 by111 Tryd.underlying111
theorem zr111 : zeroOf Tryd.prog 111 = some ([.raw .nilFunc]) := by kernel_rfl
attribute [go_sem] zr111
theorem cz112 : Tryd.prog.cellsOf 112 = 1 := by kernel_rfl
theorem by112 : Tryd.prog.bytesOf 112 = 8 := by kernel_rfl
attribute [go_sem] cz112 by112 Tryd.underlying112
theorem zr112 : zeroOf Tryd.prog 112 = some ([.raw .nilFunc]) := by kernel_rfl
attribute [go_sem] zr112
theorem cz113 : Tryd.prog.cellsOf 113 = 20 := by kernel_rfl
theorem by113 : Tryd.prog.bytesOf 113 = 160 := by kernel_rfl
attribute [go_sem] cz113 by113 Tryd.underlying113
attribute [go_sem] Tryd.eqGuardType113
theorem zr113 : zeroOf Tryd.prog 113 = some (ints .u64 (fun _ => 0) 20) := by kernel_rfl
attribute [go_sem] zr113
theorem cz114 : Tryd.prog.cellsOf 114 = 1 := by kernel_rfl
theorem by114 : Tryd.prog.bytesOf 114 = 4 := by kernel_rfl
attribute [go_sem] cz114 by114 Tryd.underlying114
theorem zr114 : zeroOf Tryd.prog 114 = some ([.int .u32 0]) := by kernel_rfl
attribute [go_sem] zr114
theorem cz115 : Tryd.prog.cellsOf 115 = 65 := by kernel_rfl
theorem by115 : Tryd.prog.bytesOf 115 = 65 := by kernel_rfl
attribute [go_sem] cz115 by115 Tryd.underlying115
attribute [go_sem] Tryd.eqGuardType115
theorem zr115 : zeroOf Tryd.prog 115 = some (ints .u8 (fun _ => 0) 65) := by kernel_rfl
attribute [go_sem] zr115
theorem cz116 : Tryd.prog.cellsOf 116 = 1 := by kernel_rfl
theorem by116 : Tryd.prog.bytesOf 116 = 8 := by kernel_rfl
attribute [go_sem] cz116 by116 Tryd.underlying116
theorem zr116 : zeroOf Tryd.prog 116 = some ([.raw .nilFunc]) := by kernel_rfl
attribute [go_sem] zr116
theorem cz117 : Tryd.prog.cellsOf 117 = 1 := by kernel_rfl
theorem by117 : Tryd.prog.bytesOf 117 = 8 := by kernel_rfl
attribute [go_sem] cz117 by117 Tryd.underlying117
theorem zr117 : zeroOf Tryd.prog 117 = some ([.raw .nilFunc]) := by kernel_rfl
attribute [go_sem] zr117
theorem cz118 : Tryd.prog.cellsOf 118 = 64 := by kernel_rfl
theorem by118 : Tryd.prog.bytesOf 118 = 64 := by kernel_rfl
attribute [go_sem] cz118 by118 Tryd.underlying118
attribute [go_sem] Tryd.eqGuardType118
theorem zr118 : zeroOf Tryd.prog 118 = some (ints .u8 (fun _ => 0) 64) := by kernel_rfl
attribute [go_sem] zr118
theorem cz119 : Tryd.prog.cellsOf 119 = 1 := by kernel_rfl
theorem by119 : Tryd.prog.bytesOf 119 = 8 := by kernel_rfl
attribute [go_sem] cz119 by119 Tryd.underlying119
theorem zr119 : zeroOf Tryd.prog 119 = some ([.raw .nilFunc]) := by kernel_rfl
attribute [go_sem] zr119
theorem cz120 : Tryd.prog.cellsOf 120 = 4 := by kernel_rfl
theorem by120 : Tryd.prog.bytesOf 120 = 40 := by kernel_rfl
attribute [go_sem] cz120 by120 Tryd.underlying120
attribute [go_sem] Tryd.eqGuardType120
theorem zr120 : zeroOf Tryd.prog 120 = some ([.raw (.pointer none), .raw (.pointer none), .raw (.pointer none), .str ⟨#[]⟩]) := by kernel_rfl
attribute [go_sem] zr120
theorem cz121 : Tryd.prog.cellsOf 121 = 4 := by kernel_rfl
theorem by121 : Tryd.prog.bytesOf 121 = 40 := by kernel_rfl
attribute [go_sem] cz121 by121 Tryd.underlying121
attribute [go_sem] Tryd.eqGuardType121
theorem zr121 : zeroOf Tryd.prog 121 = some ([.raw (.pointer none), .raw (.pointer none), .raw (.pointer none), .str ⟨#[]⟩]) := by kernel_rfl
attribute [go_sem] zr121
theorem cz122 : Tryd.prog.cellsOf 122 = 0 := by kernel_rfl
theorem by122 : Tryd.prog.bytesOf 122 = 0 := by kernel_rfl
attribute [go_sem] cz122 by122 Tryd.underlying122
attribute [go_sem] Tryd.eqGuardType122
theorem zr122 : zeroOf Tryd.prog 122 = some ([]) := by kernel_rfl
attribute [go_sem] zr122
theorem cz123 : Tryd.prog.cellsOf 123 = 0 := by kernel_rfl
theorem by123 : Tryd.prog.bytesOf 123 = 0 := by kernel_rfl
attribute [go_sem] cz123 by123 Tryd.underlying123
attribute [go_sem] Tryd.eqGuardType123
theorem zr123 : zeroOf Tryd.prog 123 = some ([]) := by kernel_rfl
attribute [go_sem] zr123
theorem cz124 : Tryd.prog.cellsOf 124 = 0 := by kernel_rfl
theorem by124 : Tryd.prog.bytesOf 124 = 0 := by kernel_rfl
attribute [go_sem] cz124 by124 Tryd.underlying124
attribute [go_sem] Tryd.eqGuardType124
theorem zr124 : zeroOf Tryd.prog 124 = some ([]) := by kernel_rfl
attribute [go_sem] zr124
theorem cz125 : Tryd.prog.cellsOf 125 = 1 := by kernel_rfl
theorem by125 : Tryd.prog.bytesOf 125 = 8 := by kernel_rfl
attribute [go_sem] cz125 by125 Tryd.underlying125
theorem zr125 : zeroOf Tryd.prog 125 = some ([.raw .nilFunc]) := by kernel_rfl
attribute [go_sem] zr125
theorem cz126 : Tryd.prog.cellsOf 126 = 1 := by kernel_rfl
theorem by126 : Tryd.prog.bytesOf 126 = 1 := by kernel_rfl
attribute [go_sem] cz126 by126 Tryd.underlying126
theorem zr126 : zeroOf Tryd.prog 126 = some ([.int .u8 0]) := by kernel_rfl
attribute [go_sem] zr126
theorem cz127 : Tryd.prog.cellsOf 127 = 1 := by kernel_rfl
theorem by127 : Tryd.prog.bytesOf 127 = 1 := by kernel_rfl
attribute [go_sem] cz127 by127 Tryd.underlying127
theorem zr127 : zeroOf Tryd.prog 127 = some ([.int .u8 0]) := by kernel_rfl
attribute [go_sem] zr127
theorem cz128 : Tryd.prog.cellsOf 128 = 1 := by kernel_rfl
theorem by128 : Tryd.prog.bytesOf 128 = 8 := by kernel_rfl
attribute [go_sem] cz128 by128 Tryd.underlying128
theorem zr128 : zeroOf Tryd.prog 128 = some ([.raw .nilFunc]) := by kernel_rfl
attribute [go_sem] zr128
theorem cz129 : Tryd.prog.cellsOf 129 = 1 := by kernel_rfl
theorem by129 : Tryd.prog.bytesOf 129 = 8 := by kernel_rfl
attribute [go_sem] cz129 by129 Tryd.underlying129
theorem zr129 : zeroOf Tryd.prog 129 = some ([.raw (.pointer none)]) := by kernel_rfl
attribute [go_sem] zr129
theorem cz130 : Tryd.prog.cellsOf 130 = 1 := by kernel_rfl
theorem by130 : Tryd.prog.bytesOf 130 = 4 := by kernel_rfl
attribute [go_sem] cz130 by130 Tryd.underlying130
theorem zr130 : zeroOf Tryd.prog 130 = some ([.int .i32 0]) := by kernel_rfl
attribute [go_sem] zr130
theorem cz131 : Tryd.prog.cellsOf 131 = 1 := by kernel_rfl
theorem by131 : Tryd.prog.bytesOf 131 = 4 := by kernel_rfl
attribute [go_sem] cz131 by131 Tryd.underlying131
theorem zr131 : zeroOf Tryd.prog 131 = some ([.int .i32 0]) := by kernel_rfl
attribute [go_sem] zr131
theorem cz132 : Tryd.prog.cellsOf 132 = 11 := by kernel_rfl
theorem by132 : Tryd.prog.bytesOf 132 = 48 := by kernel_rfl
attribute [go_sem] cz132 by132 Tryd.underlying132
attribute [go_sem] Tryd.eqGuardType132
theorem zr132 : zeroOf Tryd.prog 132 = some ([.int .u64 0, .int .u64 0, .int .u32 0, .int .u8 0, .int .u8 0, .int .u8 0, .int .u8 0, .raw .nilFunc, .raw (.pointer none), .int .i32 0, .int .i32 0]) := by kernel_rfl
attribute [go_sem] zr132
theorem cz133 : Tryd.prog.cellsOf 133 = 11 := by kernel_rfl
theorem by133 : Tryd.prog.bytesOf 133 = 48 := by kernel_rfl
attribute [go_sem] cz133 by133 Tryd.underlying133
attribute [go_sem] Tryd.eqGuardType133
theorem zr133 : zeroOf Tryd.prog 133 = some ([.int .u64 0, .int .u64 0, .int .u32 0, .int .u8 0, .int .u8 0, .int .u8 0, .int .u8 0, .raw .nilFunc, .raw (.pointer none), .int .i32 0, .int .i32 0]) := by kernel_rfl
attribute [go_sem] zr133
theorem cz134 : Tryd.prog.cellsOf 134 = 1 := by kernel_rfl
theorem by134 : Tryd.prog.bytesOf 134 = 8 := by kernel_rfl
attribute [go_sem] cz134 by134 Tryd.underlying134
theorem zr134 : zeroOf Tryd.prog 134 = some ([.raw (.pointer none)]) := by kernel_rfl
attribute [go_sem] zr134
theorem en3 : Enters Tryd.prog 3 := fun args w => Tryd.call3 args w
theorem en4 : Enters Tryd.prog 4 := fun args w => Tryd.call4 args w
theorem en5 : Enters Tryd.prog 5 := fun args w => Tryd.call5 args w
theorem en6 : Enters Tryd.prog 6 := fun args w => Tryd.call6 args w
theorem en7 : Enters Tryd.prog 7 := fun args w => Tryd.call7 args w
theorem en8 : Enters Tryd.prog 8 := fun args w => Tryd.call8 args w
theorem en9 : Enters Tryd.prog 9 := fun args w => Tryd.call9 args w
theorem en10 : Enters Tryd.prog 10 := fun args w => Tryd.call10 args w
theorem en11 : Enters Tryd.prog 11 := fun args w => Tryd.call11 args w
theorem en12 : Enters Tryd.prog 12 := fun args w => Tryd.call12 args w
theorem en13 : Enters Tryd.prog 13 := fun args w => Tryd.call13 args w
theorem en14 : Enters Tryd.prog 14 := fun args w => Tryd.call14 args w
theorem en15 : Enters Tryd.prog 15 := fun args w => Tryd.call15 args w
theorem en16 : Enters Tryd.prog 16 := fun args w => Tryd.call16 args w
theorem en17 : Enters Tryd.prog 17 := fun args w => Tryd.call17 args w
theorem en18 : Enters Tryd.prog 18 := fun args w => Tryd.call18 args w
theorem en19 : Enters Tryd.prog 19 := fun args w => Tryd.call19 args w
theorem en20 : Enters Tryd.prog 20 := fun args w => Tryd.call20 args w
theorem en21 : Enters Tryd.prog 21 := fun args w => Tryd.call21 args w
theorem en22 : Enters Tryd.prog 22 := fun args w => Tryd.call22 args w
theorem en23 : Enters Tryd.prog 23 := fun args w => Tryd.call23 args w
theorem en24 : Enters Tryd.prog 24 := fun args w => Tryd.call24 args w
theorem en25 : Enters Tryd.prog 25 := fun args w => Tryd.call25 args w
theorem en26 : Enters Tryd.prog 26 := fun args w => Tryd.call26 args w
theorem en27 : Enters Tryd.prog 27 := fun args w => Tryd.call27 args w
theorem en28 : Enters Tryd.prog 28 := fun args w => Tryd.call28 args w
theorem en29 : Enters Tryd.prog 29 := fun args w => Tryd.call29 args w
theorem en30 : Enters Tryd.prog 30 := fun args w => Tryd.call30 args w
theorem en31 : Enters Tryd.prog 31 := fun args w => Tryd.call31 args w
theorem en32 : Enters Tryd.prog 32 := fun args w => Tryd.call32 args w
theorem en33 : Enters Tryd.prog 33 := fun args w => Tryd.call33 args w
theorem en34 : Enters Tryd.prog 34 := fun args w => Tryd.call34 args w
theorem en35 : Enters Tryd.prog 35 := fun args w => Tryd.call35 args w
theorem en36 : Enters Tryd.prog 36 := fun args w => Tryd.call36 args w
theorem en37 : Enters Tryd.prog 37 := fun args w => Tryd.call37 args w
theorem en38 : Enters Tryd.prog 38 := fun args w => Tryd.call38 args w
theorem en39 : Enters Tryd.prog 39 := fun args w => Tryd.call39 args w
theorem en40 : Enters Tryd.prog 40 := fun args w => Tryd.call40 args w
theorem en41 : Enters Tryd.prog 41 := fun args w => Tryd.call41 args w
theorem en42 : Enters Tryd.prog 42 := fun args w => Tryd.call42 args w
theorem en43 : Enters Tryd.prog 43 := fun args w => Tryd.call43 args w
theorem en44 : Enters Tryd.prog 44 := fun args w => Tryd.call44 args w
theorem en45 : Enters Tryd.prog 45 := fun args w => Tryd.call45 args w
theorem en46 : Enters Tryd.prog 46 := fun args w => Tryd.call46 args w
theorem en47 : Enters Tryd.prog 47 := fun args w => Tryd.call47 args w
theorem en48 : Enters Tryd.prog 48 := fun args w => Tryd.call48 args w
theorem en49 : Enters Tryd.prog 49 := fun args w => Tryd.call49 args w
theorem en50 : Enters Tryd.prog 50 := fun args w => Tryd.call50 args w
theorem en51 : Enters Tryd.prog 51 := fun args w => Tryd.call51 args w
theorem en52 : Enters Tryd.prog 52 := fun args w => Tryd.call52 args w
theorem en53 : Enters Tryd.prog 53 := fun args w => Tryd.call53 args w
theorem en54 : Enters Tryd.prog 54 := fun args w => Tryd.call54 args w
theorem en55 : Enters Tryd.prog 55 := fun args w => Tryd.call55 args w
theorem en56 : Enters Tryd.prog 56 := fun args w => Tryd.call56 args w
theorem en57 : Enters Tryd.prog 57 := fun args w => Tryd.call57 args w
theorem en58 : Enters Tryd.prog 58 := fun args w => Tryd.call58 args w
theorem en59 : Enters Tryd.prog 59 := fun args w => Tryd.call59 args w
theorem en60 : Enters Tryd.prog 60 := fun args w => Tryd.call60 args w
theorem en61 : Enters Tryd.prog 61 := fun args w => Tryd.call61 args w
theorem en62 : Enters Tryd.prog 62 := fun args w => Tryd.call62 args w
theorem en63 : Enters Tryd.prog 63 := fun args w => Tryd.call63 args w
theorem en64 : Enters Tryd.prog 64 := fun args w => Tryd.call64 args w
theorem en65 : Enters Tryd.prog 65 := fun args w => Tryd.call65 args w
theorem en66 : Enters Tryd.prog 66 := fun args w => Tryd.call66 args w
theorem en67 : Enters Tryd.prog 67 := fun args w => Tryd.call67 args w
theorem en68 : Enters Tryd.prog 68 := fun args w => Tryd.call68 args w
theorem en69 : Enters Tryd.prog 69 := fun args w => Tryd.call69 args w
theorem en70 : Enters Tryd.prog 70 := fun args w => Tryd.call70 args w
theorem en71 : Enters Tryd.prog 71 := fun args w => Tryd.call71 args w
theorem en72 : Enters Tryd.prog 72 := fun args w => Tryd.call72 args w
theorem en73 : Enters Tryd.prog 73 := fun args w => Tryd.call73 args w
theorem en74 : Enters Tryd.prog 74 := fun args w => Tryd.call74 args w
theorem en76 : Enters Tryd.prog 76 := fun args w => Tryd.call76 args w
theorem en77 : Enters Tryd.prog 77 := fun args w => Tryd.call77 args w
theorem en78 : Enters Tryd.prog 78 := fun args w => Tryd.call78 args w
theorem en79 : Enters Tryd.prog 79 := fun args w => Tryd.call79 args w
theorem en80 : Enters Tryd.prog 80 := fun args w => Tryd.call80 args w
theorem en81 : Enters Tryd.prog 81 := fun args w => Tryd.call81 args w
theorem en82 : Enters Tryd.prog 82 := fun args w => Tryd.call82 args w
theorem en83 : Enters Tryd.prog 83 := fun args w => Tryd.call83 args w
theorem en84 : Enters Tryd.prog 84 := fun args w => Tryd.call84 args w
theorem en85 : Enters Tryd.prog 85 := fun args w => Tryd.call85 args w
theorem en86 : Enters Tryd.prog 86 := fun args w => Tryd.call86 args w
theorem en87 : Enters Tryd.prog 87 := fun args w => Tryd.call87 args w
theorem en88 : Enters Tryd.prog 88 := fun args w => Tryd.call88 args w
theorem en89 : Enters Tryd.prog 89 := fun args w => Tryd.call89 args w
theorem en90 : Enters Tryd.prog 90 := fun args w => Tryd.call90 args w
theorem en91 : Enters Tryd.prog 91 := fun args w => Tryd.call91 args w
theorem mixed : Tryd.prog.follows .mixedOrders = true := by kernel_rfl
end Go.Proofs.YthknokcfmpahcaaDoor
