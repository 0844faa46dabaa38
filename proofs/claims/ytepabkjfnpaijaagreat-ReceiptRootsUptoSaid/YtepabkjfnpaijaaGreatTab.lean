/- Part of a proof over the seat YtepabkjfnpaijaaGreat. -/
import Derived.Test.YtepabkjfnpaijaaGreatProg
import Derived.Test.YtepabkjfnpaijaaGreatEng2
import Derived.KernelRfl
set_option linter.unusedSimpArgs false
set_option linter.unusedVariables false
set_option maxRecDepth 100000
namespace Go.Proofs.YtepabkjfnpaijaaGreat
open Go Go.Ew
attribute [go_sem] Tryz.underlying1
attribute [go_sem] Tryz.underlying2
theorem cz3 : Tryz.prog.cellsOf 3 = 1 := by kernel_rfl
attribute [go_sem] cz3 Tryz.underlying3
attribute [go_sem] Tryz.underlying4
theorem cz5 : Tryz.prog.cellsOf 5 = 1 := by kernel_rfl
theorem by5 : Tryz.prog.bytesOf 5 = 1 := by kernel_rfl
attribute [go_sem] cz5 by5 Tryz.underlying5
theorem zr5 : I1 Tryz.prog 5 = some ([.int .u8 0]) := by kernel_rfl
attribute [go_sem] zr5
attribute [go_sem] Tryz.underlying6
attribute [go_sem] Tryz.underlying7
attribute [go_sem] Tryz.eqGuardType7
attribute [go_sem] Tryz.underlying8
attribute [go_sem] Tryz.eqGuardType8
attribute [go_sem] Tryz.underlying9
attribute [go_sem] Tryz.underlying10
attribute [go_sem] Tryz.underlying11
attribute [go_sem] Tryz.underlying12
attribute [go_sem] Tryz.underlying13
attribute [go_sem] Tryz.eqGuardType13
attribute [go_sem] Tryz.underlying14
attribute [go_sem] Tryz.eqGuardType14
attribute [go_sem] Tryz.underlying15
attribute [go_sem] Tryz.underlying16
attribute [go_sem] Tryz.underlying17
attribute [go_sem] Tryz.underlying18
attribute [go_sem] Tryz.eqGuardType18
attribute [go_sem] Tryz.underlying19
attribute [go_sem] Tryz.eqGuardType19
attribute [go_sem] Tryz.underlying20
attribute [go_sem] Tryz.underlying21
attribute [go_sem] Tryz.underlying22
attribute [go_sem] Tryz.underlying23
theorem Ed4 : Tryz.prog.cellsOf 24 = 1 := by kernel_rfl
attribute [go_sem] Ed4 Tryz.underlying24
attribute [go_sem] Tryz.underlying25
attribute [go_sem] Tryz.eqGuardType25
theorem Dz8 : Tryz.prog.cellsOf 26 = 256 := by kernel_rfl
attribute [go_sem] Dz8 Tryz.underlying26
attribute [go_sem] Tryz.eqGuardType26
theorem Ee4 : I1 Tryz.prog 26 = some (D4 .u8 (fun _ => 0) 256) := by kernel_rfl
attribute [go_sem] Ee4
theorem Ed3 : Tryz.prog.cellsOf 27 = 1 := by kernel_rfl
attribute [go_sem] Ed3 Tryz.underlying27
attribute [go_sem] Tryz.underlying28
attribute [go_sem] Tryz.eqGuardType28
theorem Dz7 : Tryz.prog.cellsOf 29 = 260 := by kernel_rfl
attribute [go_sem] Dz7 Tryz.underlying29
attribute [go_sem] Tryz.eqGuardType29
theorem Ee3 : I1 Tryz.prog 29 = some ([.int .u8 0, .int .i64 0, .int .u64 0, .int .u8 0, .int .u8 0, .int .u8 0, .int .u8 0, .int .u8 0, .int .u8 0, .int .u8 0, .int .u8 0, .int .u8 0, .int .u8 0, .int .u8 0, .int .u8 0, .int .u8 0, .int .u8 0, .int .u8 0, .int .u8 0, .int .u8 0, .int .u8 0, .int .u8 0, .int .u8 0, .int .u8 0, .int .u8 0, .int .u8 0, .int .u8 0, .int .u8 0, .int .u8 0, .int .u8 0, .int .u8 0, .int .u8 0, .int .u8 0, .int .u8 0, .int .u8 0, .int .u8 0, .int .u8 0, .int .u8 0, .int .u8 0, .int .u8 0, .int .u8 0, .int .u8 0, .int .u8 0, .int .u8 0, .int .u8 0, .int .u8 0, .int .u8 0, .int .u8 0, .int .u8 0, .int .u8 0, .int .u8 0, .int .u8 0, .int .u8 0, .int .u8 0, .int .u8 0, .int .u8 0, .int .u8 0, .int .u8 0, .int .u8 0, .int .u8 0, .int .u8 0, .int .u8 0, .int .u8 0, .int .u8 0, .int .u8 0, .int .u8 0, .int .u8 0, .int .u8 0, .int .u8 0, .int .u8 0, .int .u8 0, .int .u8 0, .int .u8 0, .int .u8 0, .int .u8 0, .int .u8 0, .int .u8 0, .int .u8 0, .int .u8 0, .int .u8 0, .int .u8 0, .int .u8 0, .int .u8 0, .int .u8 0, .int .u8 0, .int .u8 0, .int .u8 0, .int .u8 0, .int .u8 0, .int .u8 0, .int .u8 0, .int .u8 0, .int .u8 0, .int .u8 0, .int .u8 0, .int .u8 0, .int .u8 0, .int .u8 0, .int .u8 0, .int .u8 0, .int .u8 0, .int .u8 0, .int .u8 0, .int .u8 0, .int .u8 0, .int .u8 0, .int .u8 0, .int .u8 0, .int .u8 0, .int .u8 0, .int .u8 0, .int .u8 0, .int .u8 0, .int .u8 0, .int .u8 0, .int .u8 0, .int .u8 0, .int .u8 0, .int .u8 0, .int .u8 0, .int .u8 0, .int .u8 0, .int .u8 0, .int .u8 0, .int .u8 0, .int .u8 0, .int .u8 0, .int .u8 0, .int .u8 0, .int .u8 0, .int .u8 0, .int .u8 0, .int .u8 0, .int .u8 0, .int .u8 0, .int .u8 0, .int .u8 0, .int .u8 0, .int .u8 0, .int .u8 0, .int .u8 0, .int .u8 0, .int .u8 0, .int .u8 0, .int .u8 0, .int .u8 0, .int .u8 0, .int .u8 0, .int .u8 0, .int .u8 0, .int .u8 0, .int .u8 0, .int .u8 0, .int .u8 0, .int .u8 0, .int .u8 0, .int .u8 0, .int .u8 0, .int .u8 0, .int .u8 0, .int .u8 0, .int .u8 0, .int .u8 0, .int .u8 0, .int .u8 0, .int .u8 0, .int .u8 0, .int .u8 0, .int .u8 0, .int .u8 0, .int .u8 0, .int .u8 0, .int .u8 0, .int .u8 0, .int .u8 0, .int .u8 0, .int .u8 0, .int .u8 0, .int .u8 0, .int .u8 0, .int .u8 0, .int .u8 0, .int .u8 0, .int .u8 0, .int .u8 0, .int .u8 0, .int .u8 0, .int .u8 0, .int .u8 0, .int .u8 0, .int .u8 0, .int .u8 0, .int .u8 0, .int .u8 0, .int .u8 0, .int .u8 0, .int .u8 0, .int .u8 0, .int .u8 0, .int .u8 0, .int .u8 0, .int .u8 0, .int .u8 0, .int .u8 0, .int .u8 0, .int .u8 0, .int .u8 0, .int .u8 0, .int .u8 0, .int .u8 0, .int .u8 0, .int .u8 0, .int .u8 0, .int .u8 0, .int .u8 0, .int .u8 0, .int .u8 0, .int .u8 0, .int .u8 0, .int .u8 0, .int .u8 0, .int .u8 0, .int .u8 0, .int .u8 0, .int .u8 0, .int .u8 0, .int .u8 0, .int .u8 0, .int .u8 0, .int .u8 0, .int .u8 0, .int .u8 0, .int .u8 0, .int .u8 0, .int .u8 0, .int .u8 0, .int .u8 0, .int .u8 0, .int .u8 0, .int .u8 0, .int .u8 0, .int .u8 0, .int .u8 0, .int .u8 0, .int .u8 0, .int .u8 0, .int .u8 0, .int .u8 0, .int .u8 0, .int .u8 0, .int .u8 0, .int .u8 0, .int .u8 0, .int .u8 0, .int .u8 0, .int .u8 0, .int .u8 0, .int .u8 0, .int .u8 0, .raw (.slice none 0 0)]) := by kernel_rfl
attribute [go_sem] Ee3
attribute [go_sem] Tryz.underlying30
theorem Et5 : Tryz.prog.cellsOf 31 = 32 := by kernel_rfl
attribute [go_sem] Et5 Tryz.underlying31
attribute [go_sem] Tryz.eqGuardType31
theorem Ee2 : I1 Tryz.prog 31 = some (D4 .u8 (fun _ => 0) 32) := by kernel_rfl
attribute [go_sem] Ee2
theorem Dz6 : Tryz.prog.cellsOf 32 = 32 := by kernel_rfl
attribute [go_sem] Dz6 Tryz.underlying32
attribute [go_sem] Tryz.eqGuardType32
theorem Ee1 : I1 Tryz.prog 32 = some (D4 .u8 (fun _ => 0) 32) := by kernel_rfl
attribute [go_sem] Ee1
theorem Et4 : Tryz.prog.cellsOf 33 = 1 := by kernel_rfl
attribute [go_sem] Et4 Tryz.underlying33
theorem Ee0 : I1 Tryz.prog 33 = some ([.int .i64 0]) := by kernel_rfl
attribute [go_sem] Ee0
attribute [go_sem] Tryz.underlying35
attribute [go_sem] Tryz.underlying37
attribute [go_sem] Tryz.underlying38
theorem Dz5 : Tryz.prog.cellsOf 39 = 1 := by kernel_rfl
theorem Ed5 : Tryz.prog.bytesOf 39 = 24 := by kernel_rfl
attribute [go_sem] Dz5 Ed5 Tryz.underlying39
theorem Eb1 : I1 Tryz.prog 39 = some ([.raw (.slice none 0 0)]) := by kernel_rfl
attribute [go_sem] Eb1
attribute [go_sem] Tryz.underlying41
attribute [go_sem] Tryz.underlying42
attribute [go_sem] Tryz.underlying43
attribute [go_sem] Tryz.eqGuardType43
theorem Dz4 : Tryz.prog.cellsOf 44 = 20 := by kernel_rfl
attribute [go_sem] Dz4 Tryz.underlying44
attribute [go_sem] Tryz.eqGuardType44
theorem Ed2 : Tryz.prog.cellsOf 45 = 1 := by kernel_rfl
attribute [go_sem] Ed2 Tryz.underlying45
attribute [go_sem] Tryz.underlying46
attribute [go_sem] Tryz.eqGuardType46
theorem Dz3 : Tryz.prog.cellsOf 47 = 22 := by kernel_rfl
attribute [go_sem] Dz3 Tryz.underlying47
attribute [go_sem] Tryz.eqGuardType47
theorem Ed9 : I1 Tryz.prog 47 = some ([.int .u8 0, .int .u8 0, .int .u8 0, .int .u8 0, .int .u8 0, .int .u8 0, .int .u8 0, .int .u8 0, .int .u8 0, .int .u8 0, .int .u8 0, .int .u8 0, .int .u8 0, .int .u8 0, .int .u8 0, .int .u8 0, .int .u8 0, .int .u8 0, .int .u8 0, .int .u8 0, .raw (.slice none 0 0), .raw (.slice none 0 0)]) := by kernel_rfl
attribute [go_sem] Ed9
attribute [go_sem] Tryz.underlying48
attribute [go_sem] Tryz.underlying49
attribute [go_sem] Tryz.underlying51
attribute [go_sem] Tryz.underlying52
theorem Et3 : Tryz.prog.cellsOf 53 = 1 := by kernel_rfl
attribute [go_sem] Et3 Tryz.underlying53
attribute [go_sem] Tryz.underlying54
attribute [go_sem] Tryz.eqGuardType54
theorem Aw7 : Tryz.prog.cellsOf 55 = 3 := by kernel_rfl
theorem Ax2 : Tryz.prog.bytesOf 55 = 56 := by kernel_rfl
attribute [go_sem] Aw7 Ax2 Tryz.underlying55
attribute [go_sem] Tryz.eqGuardType55
theorem Av7 : I1 Tryz.prog 55 = some ([.int .i64 0, .raw (.slice none 0 0), .raw (.slice none 0 0)]) := by kernel_rfl
attribute [go_sem] Av7
attribute [go_sem] Tryz.underlying56
attribute [go_sem] Tryz.underlying57
attribute [go_sem] Tryz.underlying58
attribute [go_sem] Tryz.underlying59
attribute [go_sem] Tryz.underlying60
attribute [go_sem] Tryz.underlying61
attribute [go_sem] Tryz.underlying62
attribute [go_sem] Tryz.underlying63
attribute [go_sem] Tryz.underlying64
theorem Et2 : Tryz.prog.cellsOf 65 = 3 := by kernel_rfl
attribute [go_sem] Et2 Tryz.underlying65
attribute [go_sem] Tryz.eqGuardType65
theorem Ed8 : I1 Tryz.prog 65 = some ([.int .i64 0, .int .i64 0, .int .i64 0]) := by kernel_rfl
attribute [go_sem] Ed8
attribute [go_sem] Tryz.underlying66
attribute [go_sem] Tryz.underlying67
attribute [go_sem] Tryz.underlying68
attribute [go_sem] Tryz.underlying69
attribute [go_sem] Tryz.underlying70
attribute [go_sem] Tryz.underlying71
attribute [go_sem] Tryz.underlying72
attribute [go_sem] Tryz.underlying73
attribute [go_sem] Tryz.underlying74
theorem Et1 : Tryz.prog.cellsOf 75 = 1 := by kernel_rfl
attribute [go_sem] Et1 Tryz.underlying75
attribute [go_sem] Tryz.underlying77
attribute [go_sem] Tryz.underlying78
attribute [go_sem] Tryz.underlying79
attribute [go_sem] Tryz.underlying80
attribute [go_sem] Tryz.underlying81
attribute [go_sem] Tryz.underlying82
attribute [go_sem] Tryz.underlying83
attribute [go_sem] Tryz.underlying84
attribute [go_sem] Tryz.underlying85
attribute [go_sem] Tryz.underlying86
theorem Et0 : Tryz.prog.cellsOf 87 = 1 := by kernel_rfl
attribute [go_sem] Et0 Tryz.underlying87
attribute [go_sem] Tryz.underlying88
theorem Es9 : Tryz.prog.cellsOf 89 = 1 := by kernel_rfl
attribute [go_sem] Es9 Tryz.underlying89
attribute [go_sem] Tryz.underlying90
attribute [go_sem] Tryz.eqGuardType90
attribute [go_sem] Tryz.underlying91
attribute [go_sem] Tryz.eqGuardType91
theorem Ed7 : I1 Tryz.prog 91 = some ([.int .i64 0, .raw .nilIface, .raw .nilIface]) := by kernel_rfl
attribute [go_sem] Ed7
attribute [go_sem] Tryz.underlying92
attribute [go_sem] Tryz.underlying93
attribute [go_sem] Tryz.eqGuardType93
attribute [go_sem] Tryz.underlying94
attribute [go_sem] Tryz.eqGuardType94
attribute [go_sem] Tryz.underlying95
attribute [go_sem] Tryz.underlying97
attribute [go_sem] Tryz.underlying98
attribute [go_sem] Tryz.underlying99
attribute [go_sem] Tryz.underlying100
attribute [go_sem] Tryz.underlying101
theorem Ea5 : Tryz.prog.cellsOf 102 = 4 := by kernel_rfl
attribute [go_sem] Ea5 Tryz.underlying102
attribute [go_sem] Tryz.eqGuardType102
theorem Dw1 : I1 Tryz.prog 102 = some ([.int .u64 0, .int .u64 0, .int .u64 0, .int .u64 0]) := by kernel_rfl
attribute [go_sem] Dw1
attribute [go_sem] Tryz.underlying103
attribute [go_sem] Tryz.underlying105
attribute [go_sem] Tryz.underlying106
attribute [go_sem] Tryz.eqGuardType106
theorem Ds9 : Tryz.prog.cellsOf 107 = 2 := by kernel_rfl
theorem Dt2 : Tryz.prog.bytesOf 107 = 48 := by kernel_rfl
attribute [go_sem] Ds9 Dt2 Tryz.underlying107
attribute [go_sem] Tryz.eqGuardType107
theorem Do0 : I1 Tryz.prog 107 = some ([.raw (.slice none 0 0), .raw (.slice none 0 0)]) := by kernel_rfl
attribute [go_sem] Do0
attribute [go_sem] Tryz.underlying108
attribute [go_sem] Tryz.underlying109
attribute [go_sem] Tryz.eqGuardType109
attribute [go_sem] Tryz.underlying110
attribute [go_sem] Tryz.eqGuardType110
theorem Dw0 : I1 Tryz.prog 110 = some ([.raw (.slice none 0 0)]) := by kernel_rfl
attribute [go_sem] Dw0
attribute [go_sem] Tryz.underlying111
attribute [go_sem] Tryz.underlying112
attribute [go_sem] Tryz.underlying113
attribute [go_sem] Tryz.eqGuardType113
theorem Be1 : Tryz.prog.cellsOf 114 = 33 := by kernel_rfl
theorem Be9 : Tryz.prog.bytesOf 114 = 56 := by kernel_rfl
attribute [go_sem] Be1 Be9 Tryz.underlying114
attribute [go_sem] Tryz.eqGuardType114
theorem Ba8 : I1 Tryz.prog 114 = some ([.int .u8 0, .int .u8 0, .int .u8 0, .int .u8 0, .int .u8 0, .int .u8 0, .int .u8 0, .int .u8 0, .int .u8 0, .int .u8 0, .int .u8 0, .int .u8 0, .int .u8 0, .int .u8 0, .int .u8 0, .int .u8 0, .int .u8 0, .int .u8 0, .int .u8 0, .int .u8 0, .int .u8 0, .int .u8 0, .int .u8 0, .int .u8 0, .int .u8 0, .int .u8 0, .int .u8 0, .int .u8 0, .int .u8 0, .int .u8 0, .int .u8 0, .int .u8 0, .raw (.slice none 0 0)]) := by kernel_rfl
attribute [go_sem] Ba8
attribute [go_sem] Tryz.underlying115
attribute [go_sem] Tryz.underlying116
attribute [go_sem] Tryz.underlying117
attribute [go_sem] Tryz.underlying119
attribute [go_sem] Tryz.underlying120
attribute [go_sem] Tryz.underlying121
theorem Ea4 : Tryz.prog.cellsOf 122 = 4 := by kernel_rfl
attribute [go_sem] Ea4 Tryz.underlying122
attribute [go_sem] Tryz.eqGuardType122
theorem Dv9 : I1 Tryz.prog 122 = some ([.int .u64 0, .int .u64 0, .int .u64 0, .int .u64 0]) := by kernel_rfl
attribute [go_sem] Dv9
attribute [go_sem] Tryz.underlying123
attribute [go_sem] Tryz.underlying124
theorem Ea3 : Tryz.prog.cellsOf 125 = 25 := by kernel_rfl
attribute [go_sem] Ea3 Tryz.underlying125
attribute [go_sem] Tryz.eqGuardType125
theorem Dv8 : I1 Tryz.prog 125 = some (D4 .i64 (fun _ => 0) 25) := by kernel_rfl
attribute [go_sem] Dv8
attribute [go_sem] Tryz.underlying126
theorem Ea2 : Tryz.prog.cellsOf 127 = 24 := by kernel_rfl
attribute [go_sem] Ea2 Tryz.underlying127
attribute [go_sem] Tryz.eqGuardType127
theorem Dv7 : I1 Tryz.prog 127 = some (D4 .u64 (fun _ => 0) 24) := by kernel_rfl
attribute [go_sem] Dv7
attribute [go_sem] Tryz.underlying128
attribute [go_sem] Tryz.underlying129
attribute [go_sem] Tryz.eqGuardType129
attribute [go_sem] Tryz.underlying130
attribute [go_sem] Tryz.eqGuardType130
theorem Dv6 : I1 Tryz.prog 130 = some ([.int .i64 0, .int .i64 0, .int .i64 0, .int .i64 0, .int .i64 0, .int .i64 0, .int .i64 0, .int .i64 0, .int .i64 0, .int .i64 0, .int .i64 0, .int .i64 0, .int .i64 0, .int .i64 0, .int .i64 0, .int .i64 0, .int .i64 0, .int .i64 0, .int .i64 0, .int .i64 0, .int .i64 0, .int .i64 0, .int .i64 0, .int .i64 0, .int .i64 0, .int .u64 0, .int .u64 0, .int .u64 0, .int .u64 0, .int .u64 0, .int .u64 0, .int .u64 0, .int .u64 0, .int .u64 0, .int .u64 0, .int .u64 0, .int .u64 0, .int .u64 0, .int .u64 0, .int .u64 0, .int .u64 0, .int .u64 0, .int .u64 0, .int .u64 0, .int .u64 0, .int .u64 0, .int .u64 0, .int .u64 0, .int .u64 0]) := by kernel_rfl
attribute [go_sem] Dv6
theorem Ea1 : Tryz.prog.cellsOf 131 = 25 := by kernel_rfl
attribute [go_sem] Ea1 Tryz.underlying131
attribute [go_sem] Tryz.eqGuardType131
theorem Dv5 : I1 Tryz.prog 131 = some (D4 .u64 (fun _ => 0) 25) := by kernel_rfl
attribute [go_sem] Dv5
attribute [go_sem] Tryz.underlying132
attribute [go_sem] Tryz.underlying133
attribute [go_sem] Tryz.underlying134
attribute [go_sem] Tryz.underlying136
attribute [go_sem] Tryz.underlying137
attribute [go_sem] Tryz.underlying138
attribute [go_sem] Tryz.eqGuardType138
attribute [go_sem] Tryz.underlying139
attribute [go_sem] Tryz.eqGuardType139
theorem Dv4 : I1 Tryz.prog 139 = some ([.raw (.slice none 0 0), .raw (.slice none 0 0)]) := by kernel_rfl
attribute [go_sem] Dv4
attribute [go_sem] Tryz.underlying140
attribute [go_sem] Tryz.underlying141
attribute [go_sem] Tryz.underlying142
attribute [go_sem] Tryz.underlying143
theorem Ea0 : Tryz.prog.cellsOf 144 = 16 := by kernel_rfl
attribute [go_sem] Ea0 Tryz.underlying144
attribute [go_sem] Tryz.eqGuardType144
attribute [go_sem] Tryz.underlying145
attribute [go_sem] Tryz.eqGuardType145
theorem Dz9 : Tryz.prog.cellsOf 146 = 17 := by kernel_rfl
attribute [go_sem] Dz9 Tryz.underlying146
attribute [go_sem] Tryz.eqGuardType146
theorem Dv3 : I1 Tryz.prog 146 = some ([.raw .nilIface, .raw .nilIface, .raw .nilIface, .raw .nilIface, .raw .nilIface, .raw .nilIface, .raw .nilIface, .raw .nilIface, .raw .nilIface, .raw .nilIface, .raw .nilIface, .raw .nilIface, .raw .nilIface, .raw .nilIface, .raw .nilIface, .raw .nilIface, .raw (.slice none 0 0)]) := by kernel_rfl
attribute [go_sem] Dv3
attribute [go_sem] Tryz.underlying147
attribute [go_sem] Tryz.underlying148
attribute [go_sem] Tryz.underlying149
attribute [go_sem] Tryz.underlying150
attribute [go_sem] Tryz.eqGuardType150
attribute [go_sem] Tryz.underlying151
attribute [go_sem] Tryz.eqGuardType151
theorem Dv2 : I1 Tryz.prog 151 = some ([.raw (.slice none 0 0), .raw .nilIface]) := by kernel_rfl
attribute [go_sem] Dv2
attribute [go_sem] Tryz.underlying152
attribute [go_sem] Tryz.underlying153
attribute [go_sem] Tryz.underlying154
attribute [go_sem] Tryz.underlying155
attribute [go_sem] Tryz.underlying156
attribute [go_sem] Tryz.underlying157
attribute [go_sem] Tryz.underlying158
attribute [go_sem] Tryz.underlying159
attribute [go_sem] Tryz.underlying160
attribute [go_sem] Tryz.eqGuardType160
theorem Dv1 : I1 Tryz.prog 160 = some (D4 .u64 (fun _ => 0) 5) := by kernel_rfl
attribute [go_sem] Dv1
attribute [go_sem] Tryz.underlying161
attribute [go_sem] Tryz.underlying162
attribute [go_sem] Tryz.underlying163
attribute [go_sem] Tryz.underlying165
attribute [go_sem] Tryz.underlying167
attribute [go_sem] Tryz.underlying168
attribute [go_sem] Tryz.underlying169
attribute [go_sem] Tryz.underlying170
attribute [go_sem] Tryz.underlying171
attribute [go_sem] Tryz.underlying173
attribute [go_sem] Tryz.underlying174
attribute [go_sem] Tryz.underlying175
attribute [go_sem] Tryz.underlying177
attribute [go_sem] Tryz.underlying178
attribute [go_sem] Tryz.eqGuardType178
attribute [go_sem] Tryz.underlying179
attribute [go_sem] Tryz.eqGuardType179
attribute [go_sem] Tryz.underlying181
attribute [go_sem] Tryz.underlying183
attribute [go_sem] Tryz.underlying185
attribute [go_sem] Tryz.underlying186
attribute [go_sem] Tryz.underlying188
attribute [go_sem] Tryz.underlying190
attribute [go_sem] Tryz.underlying191
attribute [go_sem] Tryz.underlying192
attribute [go_sem] Tryz.eqGuardType192
attribute [go_sem] Tryz.underlying193
attribute [go_sem] Tryz.eqGuardType193
attribute [go_sem] Tryz.underlying194
attribute [go_sem] Tryz.eqGuardType194
attribute [go_sem] Tryz.underlying195
attribute [go_sem] Tryz.eqGuardType195
attribute [go_sem] Tryz.underlying196
attribute [go_sem] Tryz.eqGuardType196
attribute [go_sem] Tryz.underlying197
attribute [go_sem] Tryz.underlying198
attribute [go_sem] Tryz.underlying199
attribute [go_sem] Tryz.underlying200
attribute [go_sem] Tryz.underlying201
attribute [go_sem] Tryz.underlying202
attribute [go_sem] Tryz.underlying203
attribute [go_sem] Tryz.underlying204
attribute [go_sem] Tryz.underlying205
attribute [go_sem] Tryz.eqGuardType205
attribute [go_sem] Tryz.underlying206
attribute [go_sem] Tryz.eqGuardType206
attribute [go_sem] Tryz.underlying207
attribute [go_sem] Tryz.underlying208
theorem en4 : D0 Tryz.prog 4 := fun args w => Tryz.call4 args w
theorem en5 : D0 Tryz.prog 5 := fun args w => Tryz.call5 args w
theorem en6 : D0 Tryz.prog 6 := fun args w => Tryz.call6 args w
theorem en7 : D0 Tryz.prog 7 := fun args w => Tryz.call7 args w
theorem en8 : D0 Tryz.prog 8 := fun args w => Tryz.call8 args w
theorem en9 : D0 Tryz.prog 9 := fun args w => Tryz.call9 args w
theorem Es7 : D0 Tryz.prog 10 := fun args w => Tryz.call10 args w
theorem Ed1 : D0 Tryz.prog 11 := fun args w => Tryz.call11 args w
theorem Es6 : D0 Tryz.prog 12 := fun args w => Tryz.call12 args w
theorem Es5 : D0 Tryz.prog 13 := fun args w => Tryz.call13 args w
theorem Es4 : D0 Tryz.prog 14 := fun args w => Tryz.call14 args w
theorem Es3 : D0 Tryz.prog 15 := fun args w => Tryz.call15 args w
theorem Dn5 : D0 Tryz.prog 16 := fun args w => Tryz.call16 args w
theorem Es2 : D0 Tryz.prog 17 := fun args w => Tryz.call17 args w
theorem Dy7 : D0 Tryz.prog 18 := fun args w => Tryz.call18 args w
theorem Es1 : D0 Tryz.prog 19 := fun args w => Tryz.call19 args w
theorem Es0 : D0 Tryz.prog 20 := fun args w => Tryz.call20 args w
theorem Ed0 : D0 Tryz.prog 21 := fun args w => Tryz.call21 args w
theorem Er9 : D0 Tryz.prog 22 := fun args w => Tryz.call22 args w
theorem Er8 : D0 Tryz.prog 23 := fun args w => Tryz.call23 args w
theorem Ec9 : D0 Tryz.prog 24 := fun args w => Tryz.call24 args w
theorem Er7 : D0 Tryz.prog 25 := fun args w => Tryz.call25 args w
theorem Er6 : D0 Tryz.prog 26 := fun args w => Tryz.call26 args w
theorem Ds6 : D0 Tryz.prog 27 := fun args w => Tryz.call27 args w
theorem Dn4 : D0 Tryz.prog 28 := fun args w => Tryz.call28 args w
theorem Er5 : D0 Tryz.prog 29 := fun args w => Tryz.call29 args w
theorem Er4 : D0 Tryz.prog 30 := fun args w => Tryz.call30 args w
theorem Er3 : D0 Tryz.prog 31 := fun args w => Tryz.call31 args w
theorem Er2 : D0 Tryz.prog 32 := fun args w => Tryz.call32 args w
theorem Er1 : D0 Tryz.prog 33 := fun args w => Tryz.call33 args w
theorem Er0 : D0 Tryz.prog 34 := fun args w => Tryz.call34 args w
theorem Eq9 : D0 Tryz.prog 35 := fun args w => Tryz.call35 args w
theorem Eq8 : D0 Tryz.prog 36 := fun args w => Tryz.call36 args w
theorem Eq7 : D0 Tryz.prog 37 := fun args w => Tryz.call37 args w
theorem Eq6 : D0 Tryz.prog 38 := fun args w => Tryz.call38 args w
theorem Ec8 : D0 Tryz.prog 39 := fun args w => Tryz.call39 args w
theorem Eq5 : D0 Tryz.prog 40 := fun args w => Tryz.call40 args w
theorem Eq4 : D0 Tryz.prog 42 := fun args w => Tryz.call42 args w
theorem Eq3 : D0 Tryz.prog 43 := fun args w => Tryz.call43 args w
theorem Eq2 : D0 Tryz.prog 44 := fun args w => Tryz.call44 args w
theorem Eq1 : D0 Tryz.prog 45 := fun args w => Tryz.call45 args w
theorem Eq0 : D0 Tryz.prog 46 := fun args w => Tryz.call46 args w
theorem Ep9 : D0 Tryz.prog 47 := fun args w => Tryz.call47 args w
theorem Ep8 : D0 Tryz.prog 48 := fun args w => Tryz.call48 args w
theorem Ep7 : D0 Tryz.prog 49 := fun args w => Tryz.call49 args w
theorem Ep6 : D0 Tryz.prog 50 := fun args w => Tryz.call50 args w
theorem Ep5 : D0 Tryz.prog 51 := fun args w => Tryz.call51 args w
theorem Ep4 : D0 Tryz.prog 52 := fun args w => Tryz.call52 args w
theorem Ep3 : D0 Tryz.prog 53 := fun args w => Tryz.call53 args w
theorem Ep2 : D0 Tryz.prog 54 := fun args w => Tryz.call54 args w
theorem Ec7 : D0 Tryz.prog 55 := fun args w => Tryz.call55 args w
theorem Dy6 : D0 Tryz.prog 56 := fun args w => Tryz.call56 args w
theorem Du9 : D0 Tryz.prog 57 := fun args w => Tryz.call57 args w
theorem Ep1 : D0 Tryz.prog 58 := fun args w => Tryz.call58 args w
theorem Ep0 : D0 Tryz.prog 59 := fun args w => Tryz.call59 args w
theorem Eo9 : D0 Tryz.prog 60 := fun args w => Tryz.call60 args w
theorem Eo8 : D0 Tryz.prog 61 := fun args w => Tryz.call61 args w
theorem Eo7 : D0 Tryz.prog 62 := fun args w => Tryz.call62 args w
theorem Eo6 : D0 Tryz.prog 63 := fun args w => Tryz.call63 args w
theorem Eo5 : D0 Tryz.prog 64 := fun args w => Tryz.call64 args w
theorem Eo4 : D0 Tryz.prog 65 := fun args w => Tryz.call65 args w
theorem Eo3 : D0 Tryz.prog 66 := fun args w => Tryz.call66 args w
theorem Eo2 : D0 Tryz.prog 68 := fun args w => Tryz.call68 args w
theorem Eo1 : D0 Tryz.prog 69 := fun args w => Tryz.call69 args w
theorem Eo0 : D0 Tryz.prog 70 := fun args w => Tryz.call70 args w
theorem Ec6 : D0 Tryz.prog 71 := fun args w => Tryz.call71 args w
theorem Dy5 : D0 Tryz.prog 72 := fun args w => Tryz.call72 args w
theorem Dy4 : D0 Tryz.prog 73 := fun args w => Tryz.call73 args w
theorem En9 : D0 Tryz.prog 74 := fun args w => Tryz.call74 args w
theorem En8 : D0 Tryz.prog 75 := fun args w => Tryz.call75 args w
theorem En7 : D0 Tryz.prog 76 := fun args w => Tryz.call76 args w
theorem En6 : D0 Tryz.prog 77 := fun args w => Tryz.call77 args w
theorem En5 : D0 Tryz.prog 78 := fun args w => Tryz.call78 args w
theorem En4 : D0 Tryz.prog 79 := fun args w => Tryz.call79 args w
theorem En3 : D0 Tryz.prog 80 := fun args w => Tryz.call80 args w
theorem En2 : D0 Tryz.prog 81 := fun args w => Tryz.call81 args w
theorem En1 : D0 Tryz.prog 82 := fun args w => Tryz.call82 args w
theorem En0 : D0 Tryz.prog 83 := fun args w => Tryz.call83 args w
theorem Em9 : D0 Tryz.prog 88 := fun args w => Tryz.call88 args w
theorem Em8 : D0 Tryz.prog 89 := fun args w => Tryz.call89 args w
theorem Du8 : D0 Tryz.prog 90 := fun args w => Tryz.call90 args w
theorem Em7 : D0 Tryz.prog 91 := fun args w => Tryz.call91 args w
theorem Em6 : D0 Tryz.prog 96 := fun args w => Tryz.call96 args w
theorem Em5 : D0 Tryz.prog 97 := fun args w => Tryz.call97 args w
theorem Ec5 : D0 Tryz.prog 98 := fun args w => Tryz.call98 args w
theorem Dz2 : D0 Tryz.prog 126 := fun args w => Tryz.call126 args w
theorem Dz1 : D0 Tryz.prog 127 := fun args w => Tryz.call127 args w
theorem Dz0 : D0 Tryz.prog 128 := fun args w => Tryz.call128 args w
theorem Dy9 : D0 Tryz.prog 129 := fun args w => Tryz.call129 args w
theorem Dy8 : D0 Tryz.prog 130 := fun args w => Tryz.call130 args w
theorem mixed : Tryz.prog.follows .mixedOrders = true := by kernel_rfl
attribute [go_sem_proc] Nat.reduceBEq Nat.reduceAdd Nat.reduceMul Nat.reduceSub Nat.reduceLT Nat.reduceLeDiff Int.reduceToNat Int.reduceLT Int.reduceLE Int.reduceAdd Int.reduceMul Int.reduceSub Int.reduceNeg Int.reduceDiv Int.reduceMod Nat.reduceBNe Nat.reduceGT Int.reduceBEq Int.reduceBNe Int.reduceGT Nat.reduceDiv Nat.reduceMod Nat.reducePow Int.reducePow List.reduceReplicate
attribute [go_sem] gt_iff_lt ge_iff_le
end Go.Proofs.YtepabkjfnpaijaaGreat
