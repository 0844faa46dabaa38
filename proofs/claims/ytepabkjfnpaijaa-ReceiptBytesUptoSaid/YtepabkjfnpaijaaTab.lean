/- Part of a proof over the seat Ytepabkjfnpaijaa. -/
import Derived.Test.YtepabkjfnpaijaaProg
import Derived.Test.YtepabkjfnpaijaaEng2
import Derived.KernelRfl
set_option linter.unusedSimpArgs false
set_option linter.unusedVariables false
set_option maxRecDepth 100000
namespace Go.Proofs.Ytepabkjfnpaijaa
open Go Go.Ew
attribute [go_sem] Try.underlying1
attribute [go_sem] Try.underlying2
theorem cz3 : Try.prog.cellsOf 3 = 1 := by kernel_rfl
attribute [go_sem] cz3 Try.underlying3
attribute [go_sem] Try.underlying4
theorem cz5 : Try.prog.cellsOf 5 = 1 := by kernel_rfl
theorem by5 : Try.prog.bytesOf 5 = 1 := by kernel_rfl
attribute [go_sem] cz5 by5 Try.underlying5
theorem zr5 : zeroOf Try.prog 5 = some ([.int .u8 0]) := by kernel_rfl
attribute [go_sem] zr5
attribute [go_sem] Try.underlying6
attribute [go_sem] Try.underlying7
attribute [go_sem] Try.eqGuardType7
attribute [go_sem] Try.underlying8
attribute [go_sem] Try.eqGuardType8
attribute [go_sem] Try.underlying9
attribute [go_sem] Try.underlying10
attribute [go_sem] Try.underlying11
attribute [go_sem] Try.underlying12
attribute [go_sem] Try.underlying13
attribute [go_sem] Try.eqGuardType13
attribute [go_sem] Try.underlying14
attribute [go_sem] Try.eqGuardType14
attribute [go_sem] Try.underlying15
attribute [go_sem] Try.underlying16
attribute [go_sem] Try.underlying17
attribute [go_sem] Try.underlying18
attribute [go_sem] Try.eqGuardType18
attribute [go_sem] Try.underlying19
attribute [go_sem] Try.eqGuardType19
attribute [go_sem] Try.underlying20
attribute [go_sem] Try.underlying21
theorem cz22 : Try.prog.cellsOf 22 = 1 := by kernel_rfl
attribute [go_sem] cz22 Try.underlying22
theorem cz23 : Try.prog.cellsOf 23 = 1 := by kernel_rfl
attribute [go_sem] cz23 Try.underlying23
attribute [go_sem] Try.underlying24
attribute [go_sem] Try.underlying25
attribute [go_sem] Try.underlying26
attribute [go_sem] Try.eqGuardType26
theorem cz27 : Try.prog.cellsOf 27 = 256 := by kernel_rfl
attribute [go_sem] cz27 Try.underlying27
attribute [go_sem] Try.eqGuardType27
theorem zr27 : zeroOf Try.prog 27 = some (ints .u8 (fun _ => 0) 256) := by kernel_rfl
attribute [go_sem] zr27
attribute [go_sem] Try.underlying28
attribute [go_sem] Try.underlying29
attribute [go_sem] Try.underlying30
attribute [go_sem] Try.underlying31
attribute [go_sem] Try.underlying32
attribute [go_sem] Try.eqGuardType32
theorem cz33 : Try.prog.cellsOf 33 = 20 := by kernel_rfl
attribute [go_sem] cz33 Try.underlying33
attribute [go_sem] Try.eqGuardType33
theorem cz34 : Try.prog.cellsOf 34 = 1 := by kernel_rfl
attribute [go_sem] cz34 Try.underlying34
attribute [go_sem] Try.underlying35
attribute [go_sem] Try.eqGuardType35
theorem cz36 : Try.prog.cellsOf 36 = 22 := by kernel_rfl
theorem by36 : Try.prog.bytesOf 36 = 72 := by kernel_rfl
attribute [go_sem] cz36 by36 Try.underlying36
attribute [go_sem] Try.eqGuardType36
theorem zr36 : zeroOf Try.prog 36 = some ([.int .u8 0, .int .u8 0, .int .u8 0, .int .u8 0, .int .u8 0, .int .u8 0, .int .u8 0, .int .u8 0, .int .u8 0, .int .u8 0, .int .u8 0, .int .u8 0, .int .u8 0, .int .u8 0, .int .u8 0, .int .u8 0, .int .u8 0, .int .u8 0, .int .u8 0, .int .u8 0, .raw (.slice none 0 0), .raw (.slice none 0 0)]) := by kernel_rfl
attribute [go_sem] zr36
theorem cz37 : Try.prog.cellsOf 37 = 32 := by kernel_rfl
attribute [go_sem] cz37 Try.underlying37
attribute [go_sem] Try.eqGuardType37
theorem zr37 : zeroOf Try.prog 37 = some (ints .u8 (fun _ => 0) 32) := by kernel_rfl
attribute [go_sem] zr37
theorem cz38 : Try.prog.cellsOf 38 = 32 := by kernel_rfl
theorem by38 : Try.prog.bytesOf 38 = 32 := by kernel_rfl
attribute [go_sem] cz38 by38 Try.underlying38
attribute [go_sem] Try.eqGuardType38
theorem zr38 : zeroOf Try.prog 38 = some (ints .u8 (fun _ => 0) 32) := by kernel_rfl
attribute [go_sem] zr38
attribute [go_sem] Try.underlying39
attribute [go_sem] Try.underlying40
attribute [go_sem] Try.underlying41
attribute [go_sem] Try.underlying42
theorem cz43 : Try.prog.cellsOf 43 = 1 := by kernel_rfl
attribute [go_sem] cz43 Try.underlying43
attribute [go_sem] Try.underlying44
attribute [go_sem] Try.eqGuardType44
theorem cz45 : Try.prog.cellsOf 45 = 260 := by kernel_rfl
attribute [go_sem] cz45 Try.underlying45
attribute [go_sem] Try.eqGuardType45
theorem zr45 : zeroOf Try.prog 45 = some ([.int .u8 0, .int .i64 0, .int .u64 0, .int .u8 0, .int .u8 0, .int .u8 0, .int .u8 0, .int .u8 0, .int .u8 0, .int .u8 0, .int .u8 0, .int .u8 0, .int .u8 0, .int .u8 0, .int .u8 0, .int .u8 0, .int .u8 0, .int .u8 0, .int .u8 0, .int .u8 0, .int .u8 0, .int .u8 0, .int .u8 0, .int .u8 0, .int .u8 0, .int .u8 0, .int .u8 0, .int .u8 0, .int .u8 0, .int .u8 0, .int .u8 0, .int .u8 0, .int .u8 0, .int .u8 0, .int .u8 0, .int .u8 0, .int .u8 0, .int .u8 0, .int .u8 0, .int .u8 0, .int .u8 0, .int .u8 0, .int .u8 0, .int .u8 0, .int .u8 0, .int .u8 0, .int .u8 0, .int .u8 0, .int .u8 0, .int .u8 0, .int .u8 0, .int .u8 0, .int .u8 0, .int .u8 0, .int .u8 0, .int .u8 0, .int .u8 0, .int .u8 0, .int .u8 0, .int .u8 0, .int .u8 0, .int .u8 0, .int .u8 0, .int .u8 0, .int .u8 0, .int .u8 0, .int .u8 0, .int .u8 0, .int .u8 0, .int .u8 0, .int .u8 0, .int .u8 0, .int .u8 0, .int .u8 0, .int .u8 0, .int .u8 0, .int .u8 0, .int .u8 0, .int .u8 0, .int .u8 0, .int .u8 0, .int .u8 0, .int .u8 0, .int .u8 0, .int .u8 0, .int .u8 0, .int .u8 0, .int .u8 0, .int .u8 0, .int .u8 0, .int .u8 0, .int .u8 0, .int .u8 0, .int .u8 0, .int .u8 0, .int .u8 0, .int .u8 0, .int .u8 0, .int .u8 0, .int .u8 0, .int .u8 0, .int .u8 0, .int .u8 0, .int .u8 0, .int .u8 0, .int .u8 0, .int .u8 0, .int .u8 0, .int .u8 0, .int .u8 0, .int .u8 0, .int .u8 0, .int .u8 0, .int .u8 0, .int .u8 0, .int .u8 0, .int .u8 0, .int .u8 0, .int .u8 0, .int .u8 0, .int .u8 0, .int .u8 0, .int .u8 0, .int .u8 0, .int .u8 0, .int .u8 0, .int .u8 0, .int .u8 0, .int .u8 0, .int .u8 0, .int .u8 0, .int .u8 0, .int .u8 0, .int .u8 0, .int .u8 0, .int .u8 0, .int .u8 0, .int .u8 0, .int .u8 0, .int .u8 0, .int .u8 0, .int .u8 0, .int .u8 0, .int .u8 0, .int .u8 0, .int .u8 0, .int .u8 0, .int .u8 0, .int .u8 0, .int .u8 0, .int .u8 0, .int .u8 0, .int .u8 0, .int .u8 0, .int .u8 0, .int .u8 0, .int .u8 0, .int .u8 0, .int .u8 0, .int .u8 0, .int .u8 0, .int .u8 0, .int .u8 0, .int .u8 0, .int .u8 0, .int .u8 0, .int .u8 0, .int .u8 0, .int .u8 0, .int .u8 0, .int .u8 0, .int .u8 0, .int .u8 0, .int .u8 0, .int .u8 0, .int .u8 0, .int .u8 0, .int .u8 0, .int .u8 0, .int .u8 0, .int .u8 0, .int .u8 0, .int .u8 0, .int .u8 0, .int .u8 0, .int .u8 0, .int .u8 0, .int .u8 0, .int .u8 0, .int .u8 0, .int .u8 0, .int .u8 0, .int .u8 0, .int .u8 0, .int .u8 0, .int .u8 0, .int .u8 0, .int .u8 0, .int .u8 0, .int .u8 0, .int .u8 0, .int .u8 0, .int .u8 0, .int .u8 0, .int .u8 0, .int .u8 0, .int .u8 0, .int .u8 0, .int .u8 0, .int .u8 0, .int .u8 0, .int .u8 0, .int .u8 0, .int .u8 0, .int .u8 0, .int .u8 0, .int .u8 0, .int .u8 0, .int .u8 0, .int .u8 0, .int .u8 0, .int .u8 0, .int .u8 0, .int .u8 0, .int .u8 0, .int .u8 0, .int .u8 0, .int .u8 0, .int .u8 0, .int .u8 0, .int .u8 0, .int .u8 0, .int .u8 0, .int .u8 0, .int .u8 0, .int .u8 0, .int .u8 0, .int .u8 0, .int .u8 0, .int .u8 0, .int .u8 0, .int .u8 0, .int .u8 0, .int .u8 0, .int .u8 0, .int .u8 0, .int .u8 0, .int .u8 0, .int .u8 0, .int .u8 0, .int .u8 0, .int .u8 0, .int .u8 0, .int .u8 0, .int .u8 0, .int .u8 0, .int .u8 0, .int .u8 0, .int .u8 0, .raw (.slice none 0 0)]) := by kernel_rfl
attribute [go_sem] zr45
attribute [go_sem] Try.underlying46
attribute [go_sem] Try.underlying47
attribute [go_sem] Try.underlying48
theorem cz49 : Try.prog.cellsOf 49 = 1 := by kernel_rfl
attribute [go_sem] cz49 Try.underlying49
theorem zr49 : zeroOf Try.prog 49 = some ([.int .i64 0]) := by kernel_rfl
attribute [go_sem] zr49
attribute [go_sem] Try.underlying51
attribute [go_sem] Try.underlying53
attribute [go_sem] Try.underlying55
attribute [go_sem] Try.underlying57
attribute [go_sem] Try.underlying58
attribute [go_sem] Try.underlying59
attribute [go_sem] Try.underlying60
attribute [go_sem] Try.underlying61
attribute [go_sem] Try.underlying62
theorem cz63 : Try.prog.cellsOf 63 = 3 := by kernel_rfl
attribute [go_sem] cz63 Try.underlying63
attribute [go_sem] Try.eqGuardType63
theorem zr63 : zeroOf Try.prog 63 = some ([.int .i64 0, .int .i64 0, .int .i64 0]) := by kernel_rfl
attribute [go_sem] zr63
attribute [go_sem] Try.underlying64
attribute [go_sem] Try.underlying65
attribute [go_sem] Try.underlying66
attribute [go_sem] Try.underlying67
attribute [go_sem] Try.underlying68
attribute [go_sem] Try.underlying69
attribute [go_sem] Try.underlying70
attribute [go_sem] Try.underlying71
attribute [go_sem] Try.underlying72
attribute [go_sem] Try.underlying73
attribute [go_sem] Try.underlying74
attribute [go_sem] Try.underlying75
attribute [go_sem] Try.underlying76
theorem cz77 : Try.prog.cellsOf 77 = 1 := by kernel_rfl
attribute [go_sem] cz77 Try.underlying77
attribute [go_sem] Try.underlying78
attribute [go_sem] Try.eqGuardType78
theorem cz79 : Try.prog.cellsOf 79 = 3 := by kernel_rfl
theorem by79 : Try.prog.bytesOf 79 = 56 := by kernel_rfl
attribute [go_sem] cz79 by79 Try.underlying79
attribute [go_sem] Try.eqGuardType79
theorem zr79 : zeroOf Try.prog 79 = some ([.int .i64 0, .raw (.slice none 0 0), .raw (.slice none 0 0)]) := by kernel_rfl
attribute [go_sem] zr79
attribute [go_sem] Try.underlying80
attribute [go_sem] Try.underlying81
attribute [go_sem] Try.underlying82
attribute [go_sem] Try.underlying83
attribute [go_sem] Try.underlying84
attribute [go_sem] Try.underlying85
attribute [go_sem] Try.underlying86
attribute [go_sem] Try.underlying88
attribute [go_sem] Try.underlying90
attribute [go_sem] Try.underlying91
attribute [go_sem] Try.underlying92
attribute [go_sem] Try.eqGuardType92
attribute [go_sem] Try.underlying93
attribute [go_sem] Try.eqGuardType93
theorem zr93 : zeroOf Try.prog 93 = some ([.int .i64 0]) := by kernel_rfl
attribute [go_sem] zr93
attribute [go_sem] Try.underlying94
attribute [go_sem] Try.underlying95
attribute [go_sem] Try.underlying96
attribute [go_sem] Try.underlying97
attribute [go_sem] Try.underlying99
attribute [go_sem] Try.underlying101
attribute [go_sem] Try.underlying103
attribute [go_sem] Try.underlying104
attribute [go_sem] Try.underlying106
attribute [go_sem] Try.underlying107
attribute [go_sem] Try.underlying108
attribute [go_sem] Try.underlying109
attribute [go_sem] Try.underlying110
attribute [go_sem] Try.underlying111
attribute [go_sem] Try.underlying112
attribute [go_sem] Try.underlying113
attribute [go_sem] Try.underlying114
attribute [go_sem] Try.underlying115
attribute [go_sem] Try.underlying116
attribute [go_sem] Try.underlying117
attribute [go_sem] Try.underlying118
theorem cz119 : Try.prog.cellsOf 119 = 4 := by kernel_rfl
attribute [go_sem] cz119 Try.underlying119
attribute [go_sem] Try.eqGuardType119
theorem zr119 : zeroOf Try.prog 119 = some ([.int .u64 0, .int .u64 0, .int .u64 0, .int .u64 0]) := by kernel_rfl
attribute [go_sem] zr119
attribute [go_sem] Try.underlying120
attribute [go_sem] Try.underlying122
attribute [go_sem] Try.underlying124
attribute [go_sem] Try.underlying125
attribute [go_sem] Try.underlying127
attribute [go_sem] Try.underlying128
attribute [go_sem] Try.underlying130
theorem cz131 : Try.prog.cellsOf 131 = 4 := by kernel_rfl
attribute [go_sem] cz131 Try.underlying131
attribute [go_sem] Try.eqGuardType131
theorem zr131 : zeroOf Try.prog 131 = some ([.int .u64 0, .int .u64 0, .int .u64 0, .int .u64 0]) := by kernel_rfl
attribute [go_sem] zr131
attribute [go_sem] Try.underlying133
attribute [go_sem] Try.underlying134
theorem cz135 : Try.prog.cellsOf 135 = 25 := by kernel_rfl
attribute [go_sem] cz135 Try.underlying135
attribute [go_sem] Try.eqGuardType135
theorem zr135 : zeroOf Try.prog 135 = some (ints .i64 (fun _ => 0) 25) := by kernel_rfl
attribute [go_sem] zr135
attribute [go_sem] Try.underlying136
theorem cz137 : Try.prog.cellsOf 137 = 24 := by kernel_rfl
attribute [go_sem] cz137 Try.underlying137
attribute [go_sem] Try.eqGuardType137
theorem zr137 : zeroOf Try.prog 137 = some (ints .u64 (fun _ => 0) 24) := by kernel_rfl
attribute [go_sem] zr137
attribute [go_sem] Try.underlying138
attribute [go_sem] Try.underlying139
attribute [go_sem] Try.eqGuardType139
attribute [go_sem] Try.underlying140
attribute [go_sem] Try.eqGuardType140
theorem zr140 : zeroOf Try.prog 140 = some ([.int .i64 0, .int .i64 0, .int .i64 0, .int .i64 0, .int .i64 0, .int .i64 0, .int .i64 0, .int .i64 0, .int .i64 0, .int .i64 0, .int .i64 0, .int .i64 0, .int .i64 0, .int .i64 0, .int .i64 0, .int .i64 0, .int .i64 0, .int .i64 0, .int .i64 0, .int .i64 0, .int .i64 0, .int .i64 0, .int .i64 0, .int .i64 0, .int .i64 0, .int .u64 0, .int .u64 0, .int .u64 0, .int .u64 0, .int .u64 0, .int .u64 0, .int .u64 0, .int .u64 0, .int .u64 0, .int .u64 0, .int .u64 0, .int .u64 0, .int .u64 0, .int .u64 0, .int .u64 0, .int .u64 0, .int .u64 0, .int .u64 0, .int .u64 0, .int .u64 0, .int .u64 0, .int .u64 0, .int .u64 0, .int .u64 0]) := by kernel_rfl
attribute [go_sem] zr140
theorem cz141 : Try.prog.cellsOf 141 = 25 := by kernel_rfl
attribute [go_sem] cz141 Try.underlying141
attribute [go_sem] Try.eqGuardType141
theorem zr141 : zeroOf Try.prog 141 = some (ints .u64 (fun _ => 0) 25) := by kernel_rfl
attribute [go_sem] zr141
attribute [go_sem] Try.underlying142
attribute [go_sem] Try.underlying143
attribute [go_sem] Try.underlying144
attribute [go_sem] Try.underlying145
attribute [go_sem] Try.underlying146
attribute [go_sem] Try.underlying147
attribute [go_sem] Try.underlying149
attribute [go_sem] Try.underlying150
attribute [go_sem] Try.underlying151
attribute [go_sem] Try.underlying152
attribute [go_sem] Try.underlying153
attribute [go_sem] Try.underlying154
attribute [go_sem] Try.eqGuardType154
theorem cz155 : Try.prog.cellsOf 155 = 3 := by kernel_rfl
attribute [go_sem] cz155 Try.underlying155
attribute [go_sem] Try.eqGuardType155
theorem zr155 : zeroOf Try.prog 155 = some ([.int .i64 0, .int .i64 0, .int .i64 0]) := by kernel_rfl
attribute [go_sem] zr155
attribute [go_sem] Try.underlying157
attribute [go_sem] Try.underlying159
attribute [go_sem] Try.underlying161
attribute [go_sem] Try.underlying162
attribute [go_sem] Try.underlying163
attribute [go_sem] Try.eqGuardType163
theorem zr163 : zeroOf Try.prog 163 = some (ints .u64 (fun _ => 0) 5) := by kernel_rfl
attribute [go_sem] zr163
attribute [go_sem] Try.underlying164
attribute [go_sem] Try.underlying165
attribute [go_sem] Try.underlying166
attribute [go_sem] Try.underlying167
attribute [go_sem] Try.underlying169
attribute [go_sem] Try.underlying170
attribute [go_sem] Try.underlying171
attribute [go_sem] Try.underlying172
attribute [go_sem] Try.underlying174
attribute [go_sem] Try.underlying175
attribute [go_sem] Try.underlying176
attribute [go_sem] Try.eqGuardType176
attribute [go_sem] Try.underlying177
attribute [go_sem] Try.eqGuardType177
attribute [go_sem] Try.underlying178
attribute [go_sem] Try.eqGuardType178
attribute [go_sem] Try.underlying179
attribute [go_sem] Try.eqGuardType179
attribute [go_sem] Try.underlying180
attribute [go_sem] Try.eqGuardType180
attribute [go_sem] Try.underlying181
attribute [go_sem] Try.underlying182
attribute [go_sem] Try.underlying183
attribute [go_sem] Try.underlying184
attribute [go_sem] Try.underlying185
attribute [go_sem] Try.underlying186
attribute [go_sem] Try.underlying187
attribute [go_sem] Try.underlying188
attribute [go_sem] Try.underlying189
attribute [go_sem] Try.eqGuardType189
attribute [go_sem] Try.underlying190
attribute [go_sem] Try.eqGuardType190
attribute [go_sem] Try.underlying191
theorem en7 : Enters Try.prog 7 := fun args w => Try.call7 args w
theorem en8 : Enters Try.prog 8 := fun args w => Try.call8 args w
theorem en9 : Enters Try.prog 9 := fun args w => Try.call9 args w
theorem en10 : Enters Try.prog 10 := fun args w => Try.call10 args w
theorem en12 : Enters Try.prog 12 := fun args w => Try.call12 args w
theorem en16 : Enters Try.prog 16 := fun args w => Try.call16 args w
theorem en19 : Enters Try.prog 19 := fun args w => Try.call19 args w
theorem en20 : Enters Try.prog 20 := fun args w => Try.call20 args w
theorem en21 : Enters Try.prog 21 := fun args w => Try.call21 args w
theorem en22 : Enters Try.prog 22 := fun args w => Try.call22 args w
theorem en23 : Enters Try.prog 23 := fun args w => Try.call23 args w
theorem en24 : Enters Try.prog 24 := fun args w => Try.call24 args w
theorem en25 : Enters Try.prog 25 := fun args w => Try.call25 args w
theorem en26 : Enters Try.prog 26 := fun args w => Try.call26 args w
theorem en32 : Enters Try.prog 32 := fun args w => Try.call32 args w
theorem en33 : Enters Try.prog 33 := fun args w => Try.call33 args w
theorem en34 : Enters Try.prog 34 := fun args w => Try.call34 args w
theorem en35 : Enters Try.prog 35 := fun args w => Try.call35 args w
theorem en36 : Enters Try.prog 36 := fun args w => Try.call36 args w
theorem en37 : Enters Try.prog 37 := fun args w => Try.call37 args w
theorem en38 : Enters Try.prog 38 := fun args w => Try.call38 args w
theorem en39 : Enters Try.prog 39 := fun args w => Try.call39 args w
theorem en40 : Enters Try.prog 40 := fun args w => Try.call40 args w
theorem en41 : Enters Try.prog 41 := fun args w => Try.call41 args w
theorem en42 : Enters Try.prog 42 := fun args w => Try.call42 args w
theorem en43 : Enters Try.prog 43 := fun args w => Try.call43 args w
theorem en44 : Enters Try.prog 44 := fun args w => Try.call44 args w
theorem en45 : Enters Try.prog 45 := fun args w => Try.call45 args w
theorem en46 : Enters Try.prog 46 := fun args w => Try.call46 args w
theorem en47 : Enters Try.prog 47 := fun args w => Try.call47 args w
theorem en48 : Enters Try.prog 48 := fun args w => Try.call48 args w
theorem en49 : Enters Try.prog 49 := fun args w => Try.call49 args w
theorem en50 : Enters Try.prog 50 := fun args w => Try.call50 args w
theorem en51 : Enters Try.prog 51 := fun args w => Try.call51 args w
theorem en52 : Enters Try.prog 52 := fun args w => Try.call52 args w
theorem en53 : Enters Try.prog 53 := fun args w => Try.call53 args w
theorem en54 : Enters Try.prog 54 := fun args w => Try.call54 args w
theorem en55 : Enters Try.prog 55 := fun args w => Try.call55 args w
theorem en56 : Enters Try.prog 56 := fun args w => Try.call56 args w
theorem en57 : Enters Try.prog 57 := fun args w => Try.call57 args w
theorem en59 : Enters Try.prog 59 := fun args w => Try.call59 args w
theorem en60 : Enters Try.prog 60 := fun args w => Try.call60 args w
theorem en61 : Enters Try.prog 61 := fun args w => Try.call61 args w
theorem en62 : Enters Try.prog 62 := fun args w => Try.call62 args w
theorem en63 : Enters Try.prog 63 := fun args w => Try.call63 args w
theorem en64 : Enters Try.prog 64 := fun args w => Try.call64 args w
theorem en65 : Enters Try.prog 65 := fun args w => Try.call65 args w
theorem en66 : Enters Try.prog 66 := fun args w => Try.call66 args w
theorem en67 : Enters Try.prog 67 := fun args w => Try.call67 args w
theorem en68 : Enters Try.prog 68 := fun args w => Try.call68 args w
theorem en69 : Enters Try.prog 69 := fun args w => Try.call69 args w
theorem en70 : Enters Try.prog 70 := fun args w => Try.call70 args w
theorem en71 : Enters Try.prog 71 := fun args w => Try.call71 args w
theorem en72 : Enters Try.prog 72 := fun args w => Try.call72 args w
theorem en73 : Enters Try.prog 73 := fun args w => Try.call73 args w
theorem en74 : Enters Try.prog 74 := fun args w => Try.call74 args w
theorem en75 : Enters Try.prog 75 := fun args w => Try.call75 args w
theorem en76 : Enters Try.prog 76 := fun args w => Try.call76 args w
theorem en77 : Enters Try.prog 77 := fun args w => Try.call77 args w
theorem en78 : Enters Try.prog 78 := fun args w => Try.call78 args w
theorem en79 : Enters Try.prog 79 := fun args w => Try.call79 args w
theorem en80 : Enters Try.prog 80 := fun args w => Try.call80 args w
theorem en81 : Enters Try.prog 81 := fun args w => Try.call81 args w
theorem en82 : Enters Try.prog 82 := fun args w => Try.call82 args w
theorem en83 : Enters Try.prog 83 := fun args w => Try.call83 args w
theorem en84 : Enters Try.prog 84 := fun args w => Try.call84 args w
theorem en85 : Enters Try.prog 85 := fun args w => Try.call85 args w
theorem en86 : Enters Try.prog 86 := fun args w => Try.call86 args w
theorem en87 : Enters Try.prog 87 := fun args w => Try.call87 args w
theorem en88 : Enters Try.prog 88 := fun args w => Try.call88 args w
theorem en89 : Enters Try.prog 89 := fun args w => Try.call89 args w
theorem en90 : Enters Try.prog 90 := fun args w => Try.call90 args w
theorem en91 : Enters Try.prog 91 := fun args w => Try.call91 args w
theorem en92 : Enters Try.prog 92 := fun args w => Try.call92 args w
theorem en93 : Enters Try.prog 93 := fun args w => Try.call93 args w
theorem en94 : Enters Try.prog 94 := fun args w => Try.call94 args w
theorem en95 : Enters Try.prog 95 := fun args w => Try.call95 args w
theorem en96 : Enters Try.prog 96 := fun args w => Try.call96 args w
theorem en97 : Enters Try.prog 97 := fun args w => Try.call97 args w
theorem en98 : Enters Try.prog 98 := fun args w => Try.call98 args w
theorem en99 : Enters Try.prog 99 := fun args w => Try.call99 args w
theorem en100 : Enters Try.prog 100 := fun args w => Try.call100 args w
theorem en101 : Enters Try.prog 101 := fun args w => Try.call101 args w
theorem en102 : Enters Try.prog 102 := fun args w => Try.call102 args w
theorem en103 : Enters Try.prog 103 := fun args w => Try.call103 args w
theorem en104 : Enters Try.prog 104 := fun args w => Try.call104 args w
theorem mixed : Try.prog.follows .mixedOrders = true := by kernel_rfl
attribute [go_sem_proc] Nat.reduceBEq Nat.reduceAdd Nat.reduceMul Nat.reduceSub Nat.reduceLT Nat.reduceLeDiff Int.reduceToNat Int.reduceLT Int.reduceLE Int.reduceAdd Int.reduceMul Int.reduceSub Int.reduceNeg Int.reduceDiv Int.reduceMod Nat.reduceBNe Nat.reduceGT Int.reduceBEq Int.reduceBNe Int.reduceGT Nat.reduceDiv Nat.reduceMod Nat.reducePow Int.reducePow List.reduceReplicate
attribute [go_sem] gt_iff_lt ge_iff_le
end Go.Proofs.Ytepabkjfnpaijaa
