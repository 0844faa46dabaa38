/- Part of a proof over the seat Ytncjbfkkgdepoaa. -/
import Derived.Test.YtncjbfkkgdepoaaProg
import Derived.Test.YtncjbfkkgdepoaaEng2
import Derived.KernelRfl
set_option linter.unusedSimpArgs false
set_option linter.unusedVariables false
set_option maxRecDepth 100000
namespace Go.Proofs.Ytncjbfkkgdepoaa
open Go Go.Ew
attribute [go_sem] Try.underlying1
attribute [go_sem] Try.underlying2
theorem cz3 : Try.prog.cellsOf 3 = 1 := by kernel_rfl
attribute [go_sem] cz3 Try.underlying3
attribute [go_sem] Try.underlying4
theorem cz5 : Try.prog.cellsOf 5 = 1 := by kernel_rfl
theorem by5 : Try.prog.bytesOf 5 = 1 := by kernel_rfl
attribute [go_sem] cz5 by5 Try.underlying5
theorem zr5 : G5 Try.prog 5 = some ([.int .u8 0]) := by kernel_rfl
attribute [go_sem] zr5
attribute [go_sem] Try.underlying6
attribute [go_sem] Try.underlying7
attribute [go_sem] Try.eqGuardType7
attribute [go_sem] Try.underlying8
attribute [go_sem] Try.eqGuardType8
attribute [go_sem] Try.underlying9
attribute [go_sem] Try.underlying10
attribute [go_sem] Try.underlying11
attribute [go_sem] Try.underlying12
attribute [go_sem] Try.underlying13
attribute [go_sem] Try.eqGuardType13
attribute [go_sem] Try.underlying14
attribute [go_sem] Try.eqGuardType14
attribute [go_sem] Try.underlying15
attribute [go_sem] Try.underlying16
attribute [go_sem] Try.underlying17
attribute [go_sem] Try.underlying18
attribute [go_sem] Try.eqGuardType18
attribute [go_sem] Try.underlying19
attribute [go_sem] Try.eqGuardType19
attribute [go_sem] Try.underlying20
attribute [go_sem] Try.underlying21
theorem Dl7 : Try.prog.cellsOf 22 = 1 := by kernel_rfl
attribute [go_sem] Dl7 Try.underlying22
theorem Dl6 : Try.prog.cellsOf 23 = 1 := by kernel_rfl
attribute [go_sem] Dl6 Try.underlying23
theorem De2 : G5 Try.prog 23 = some ([.int .i64 0]) := by kernel_rfl
attribute [go_sem] De2
attribute [go_sem] Try.underlying25
attribute [go_sem] Try.underlying26
attribute [go_sem] Try.underlying28
attribute [go_sem] Try.underlying29
attribute [go_sem] Try.underlying30
attribute [go_sem] Try.underlying31
attribute [go_sem] Try.underlying32
attribute [go_sem] Try.underlying33
attribute [go_sem] Try.underlying34
attribute [go_sem] Try.eqGuardType34
theorem Dl5 : Try.prog.cellsOf 35 = 2 := by kernel_rfl
attribute [go_sem] Dl5 Try.underlying35
attribute [go_sem] Try.eqGuardType35
theorem De1 : G5 Try.prog 35 = some ([.raw (.slice none 0 0), .raw (.slice none 0 0)]) := by kernel_rfl
attribute [go_sem] De1
attribute [go_sem] Try.underlying36
attribute [go_sem] Try.underlying37
attribute [go_sem] Try.underlying38
attribute [go_sem] Try.underlying39
attribute [go_sem] Try.underlying40
attribute [go_sem] Try.underlying42
attribute [go_sem] Try.underlying43
theorem Dl4 : Try.prog.cellsOf 44 = 32 := by kernel_rfl
attribute [go_sem] Dl4 Try.underlying44
attribute [go_sem] Try.eqGuardType44
theorem De0 : G5 Try.prog 44 = some (C8 .u8 (fun _ => 0) 32) := by kernel_rfl
attribute [go_sem] De0
theorem Dl3 : Try.prog.cellsOf 45 = 32 := by kernel_rfl
attribute [go_sem] Dl3 Try.underlying45
attribute [go_sem] Try.eqGuardType45
theorem Dd9 : G5 Try.prog 45 = some (C8 .u8 (fun _ => 0) 32) := by kernel_rfl
attribute [go_sem] Dd9
attribute [go_sem] Try.underlying47
attribute [go_sem] Try.underlying48
attribute [go_sem] Try.underlying49
attribute [go_sem] Try.underlying50
attribute [go_sem] Try.underlying52
attribute [go_sem] Try.underlying53
attribute [go_sem] Try.underlying54
attribute [go_sem] Try.underlying55
attribute [go_sem] Try.underlying56
attribute [go_sem] Try.underlying57
attribute [go_sem] Try.underlying58
attribute [go_sem] Try.underlying59
attribute [go_sem] Try.underlying60
attribute [go_sem] Try.underlying61
attribute [go_sem] Try.underlying62
attribute [go_sem] Try.underlying63
attribute [go_sem] Try.underlying64
attribute [go_sem] Try.underlying66
theorem Dl2 : Try.prog.cellsOf 67 = 1 := by kernel_rfl
attribute [go_sem] Dl2 Try.underlying67
attribute [go_sem] Try.underlying68
attribute [go_sem] Try.eqGuardType68
attribute [go_sem] Try.underlying69
attribute [go_sem] Try.eqGuardType69
theorem Dd8 : G5 Try.prog 69 = some ([.int .i64 0, .raw (.map none)]) := by kernel_rfl
attribute [go_sem] Dd8
attribute [go_sem] Try.underlying70
theorem Dl1 : Try.prog.cellsOf 71 = 1 := by kernel_rfl
attribute [go_sem] Dl1 Try.underlying71
attribute [go_sem] Try.underlying73
attribute [go_sem] Try.underlying74
theorem Dl0 : Try.prog.cellsOf 75 = 1 := by kernel_rfl
attribute [go_sem] Dl0 Try.underlying75
attribute [go_sem] Try.underlying76
attribute [go_sem] Try.eqGuardType76
attribute [go_sem] Try.underlying77
attribute [go_sem] Try.eqGuardType77
theorem Dd7 : G5 Try.prog 77 = some ([.int .i64 0, .raw .nilIface, .raw .nilIface]) := by kernel_rfl
attribute [go_sem] Dd7
attribute [go_sem] Try.underlying78
attribute [go_sem] Try.underlying79
attribute [go_sem] Try.eqGuardType79
attribute [go_sem] Try.underlying80
attribute [go_sem] Try.eqGuardType80
attribute [go_sem] Try.underlying81
attribute [go_sem] Try.underlying82
attribute [go_sem] Try.underlying83
attribute [go_sem] Try.underlying84
attribute [go_sem] Try.underlying85
attribute [go_sem] Try.eqGuardType85
attribute [go_sem] Try.underlying86
attribute [go_sem] Try.eqGuardType86
attribute [go_sem] Try.underlying88
theorem Dk9 : Try.prog.cellsOf 89 = 1 := by kernel_rfl
attribute [go_sem] Dk9 Try.underlying89
attribute [go_sem] Try.underlying90
attribute [go_sem] Try.eqGuardType90
theorem Cr4 : Try.prog.cellsOf 91 = 3 := by kernel_rfl
theorem Cr7 : Try.prog.bytesOf 91 = 56 := by kernel_rfl
attribute [go_sem] Cr4 Cr7 Try.underlying91
attribute [go_sem] Try.eqGuardType91
theorem Cm7 : G5 Try.prog 91 = some ([.int .i64 0, .raw (.slice none 0 0), .raw (.slice none 0 0)]) := by kernel_rfl
attribute [go_sem] Cm7
attribute [go_sem] Try.underlying92
attribute [go_sem] Try.underlying93
attribute [go_sem] Try.underlying94
attribute [go_sem] Try.eqGuardType94
attribute [go_sem] Try.underlying95
attribute [go_sem] Try.eqGuardType95
attribute [go_sem] Try.underlying96
attribute [go_sem] Try.underlying97
attribute [go_sem] Try.eqGuardType97
attribute [go_sem] Try.underlying98
attribute [go_sem] Try.eqGuardType98
attribute [go_sem] Try.underlying99
attribute [go_sem] Try.underlying100
attribute [go_sem] Try.underlying101
attribute [go_sem] Try.underlying102
attribute [go_sem] Try.underlying104
attribute [go_sem] Try.underlying106
attribute [go_sem] Try.underlying108
attribute [go_sem] Try.underlying110
attribute [go_sem] Try.underlying111
attribute [go_sem] Try.underlying112
attribute [go_sem] Try.underlying113
attribute [go_sem] Try.underlying114
attribute [go_sem] Try.eqGuardType114
attribute [go_sem] Try.underlying115
attribute [go_sem] Try.eqGuardType115
theorem Cu6 : G5 Try.prog 115 = some ([.raw (.slice none 0 0), .raw (.slice none 0 0)]) := by kernel_rfl
attribute [go_sem] Cu6
attribute [go_sem] Try.underlying116
attribute [go_sem] Try.underlying117
attribute [go_sem] Try.eqGuardType117
attribute [go_sem] Try.underlying118
attribute [go_sem] Try.eqGuardType118
theorem Cu5 : G5 Try.prog 118 = some ([.raw (.slice none 0 0), .raw .nilIface]) := by kernel_rfl
attribute [go_sem] Cu5
attribute [go_sem] Try.underlying119
theorem Da6 : Try.prog.cellsOf 120 = 16 := by kernel_rfl
attribute [go_sem] Da6 Try.underlying120
attribute [go_sem] Try.eqGuardType120
attribute [go_sem] Try.underlying121
attribute [go_sem] Try.eqGuardType121
theorem Da5 : Try.prog.cellsOf 122 = 17 := by kernel_rfl
attribute [go_sem] Da5 Try.underlying122
attribute [go_sem] Try.eqGuardType122
theorem Cu4 : G5 Try.prog 122 = some ([.raw .nilIface, .raw .nilIface, .raw .nilIface, .raw .nilIface, .raw .nilIface, .raw .nilIface, .raw .nilIface, .raw .nilIface, .raw .nilIface, .raw .nilIface, .raw .nilIface, .raw .nilIface, .raw .nilIface, .raw .nilIface, .raw .nilIface, .raw .nilIface, .raw (.slice none 0 0)]) := by kernel_rfl
attribute [go_sem] Cu4
attribute [go_sem] Try.underlying123
attribute [go_sem] Try.underlying124
attribute [go_sem] Try.underlying125
theorem Da4 : Try.prog.cellsOf 126 = 25 := by kernel_rfl
attribute [go_sem] Da4 Try.underlying126
attribute [go_sem] Try.eqGuardType126
theorem Cu3 : G5 Try.prog 126 = some (C8 .i64 (fun _ => 0) 25) := by kernel_rfl
attribute [go_sem] Cu3
attribute [go_sem] Try.underlying127
theorem Da3 : Try.prog.cellsOf 128 = 1 := by kernel_rfl
attribute [go_sem] Da3 Try.underlying128
theorem Da2 : Try.prog.cellsOf 129 = 24 := by kernel_rfl
attribute [go_sem] Da2 Try.underlying129
attribute [go_sem] Try.eqGuardType129
theorem Cu2 : G5 Try.prog 129 = some (C8 .u64 (fun _ => 0) 24) := by kernel_rfl
attribute [go_sem] Cu2
attribute [go_sem] Try.underlying130
attribute [go_sem] Try.underlying131
attribute [go_sem] Try.eqGuardType131
attribute [go_sem] Try.underlying132
attribute [go_sem] Try.eqGuardType132
theorem Cu1 : G5 Try.prog 132 = some ([.int .i64 0, .int .i64 0, .int .i64 0, .int .i64 0, .int .i64 0, .int .i64 0, .int .i64 0, .int .i64 0, .int .i64 0, .int .i64 0, .int .i64 0, .int .i64 0, .int .i64 0, .int .i64 0, .int .i64 0, .int .i64 0, .int .i64 0, .int .i64 0, .int .i64 0, .int .i64 0, .int .i64 0, .int .i64 0, .int .i64 0, .int .i64 0, .int .i64 0, .int .u64 0, .int .u64 0, .int .u64 0, .int .u64 0, .int .u64 0, .int .u64 0, .int .u64 0, .int .u64 0, .int .u64 0, .int .u64 0, .int .u64 0, .int .u64 0, .int .u64 0, .int .u64 0, .int .u64 0, .int .u64 0, .int .u64 0, .int .u64 0, .int .u64 0, .int .u64 0, .int .u64 0, .int .u64 0, .int .u64 0, .int .u64 0]) := by kernel_rfl
attribute [go_sem] Cu1
theorem Da1 : Try.prog.cellsOf 133 = 25 := by kernel_rfl
attribute [go_sem] Da1 Try.underlying133
attribute [go_sem] Try.eqGuardType133
theorem Cu0 : G5 Try.prog 133 = some (C8 .u64 (fun _ => 0) 25) := by kernel_rfl
attribute [go_sem] Cu0
attribute [go_sem] Try.underlying134
attribute [go_sem] Try.underlying135
attribute [go_sem] Try.underlying136
attribute [go_sem] Try.underlying137
attribute [go_sem] Try.underlying138
attribute [go_sem] Try.underlying139
attribute [go_sem] Try.underlying140
attribute [go_sem] Try.underlying141
attribute [go_sem] Try.underlying142
attribute [go_sem] Try.underlying143
attribute [go_sem] Try.underlying144
attribute [go_sem] Try.underlying145
attribute [go_sem] Try.underlying146
attribute [go_sem] Try.underlying147
attribute [go_sem] Try.underlying148
attribute [go_sem] Try.eqGuardType148
attribute [go_sem] Try.underlying149
attribute [go_sem] Try.eqGuardType149
attribute [go_sem] Try.underlying151
attribute [go_sem] Try.underlying152
attribute [go_sem] Try.underlying153
attribute [go_sem] Try.eqGuardType153
attribute [go_sem] Try.underlying154
attribute [go_sem] Try.eqGuardType154
attribute [go_sem] Try.underlying155
attribute [go_sem] Try.underlying157
attribute [go_sem] Try.underlying159
attribute [go_sem] Try.underlying160
attribute [go_sem] Try.underlying161
attribute [go_sem] Try.underlying162
attribute [go_sem] Try.underlying164
attribute [go_sem] Try.underlying165
attribute [go_sem] Try.underlying166
attribute [go_sem] Try.underlying167
attribute [go_sem] Try.underlying170
attribute [go_sem] Try.underlying171
attribute [go_sem] Try.underlying172
attribute [go_sem] Try.underlying173
attribute [go_sem] Try.eqGuardType173
theorem Ct9 : G5 Try.prog 173 = some (C8 .u64 (fun _ => 0) 5) := by kernel_rfl
attribute [go_sem] Ct9
attribute [go_sem] Try.underlying174
attribute [go_sem] Try.underlying175
attribute [go_sem] Try.underlying176
attribute [go_sem] Try.underlying177
attribute [go_sem] Try.underlying179
attribute [go_sem] Try.underlying180
attribute [go_sem] Try.underlying182
attribute [go_sem] Try.underlying183
attribute [go_sem] Try.underlying184
attribute [go_sem] Try.underlying185
attribute [go_sem] Try.underlying186
attribute [go_sem] Try.underlying187
attribute [go_sem] Try.underlying188
attribute [go_sem] Try.underlying190
attribute [go_sem] Try.underlying191
attribute [go_sem] Try.underlying192
attribute [go_sem] Try.eqGuardType192
attribute [go_sem] Try.underlying193
attribute [go_sem] Try.underlying194
attribute [go_sem] Try.eqGuardType194
attribute [go_sem] Try.underlying195
attribute [go_sem] Try.eqGuardType195
attribute [go_sem] Try.underlying197
attribute [go_sem] Try.underlying199
attribute [go_sem] Try.underlying201
attribute [go_sem] Try.underlying202
attribute [go_sem] Try.underlying203
attribute [go_sem] Try.underlying204
attribute [go_sem] Try.underlying205
attribute [go_sem] Try.underlying206
attribute [go_sem] Try.underlying207
theorem Da0 : Try.prog.cellsOf 208 = 4 := by kernel_rfl
attribute [go_sem] Da0 Try.underlying208
attribute [go_sem] Try.eqGuardType208
theorem Ct8 : G5 Try.prog 208 = some ([.int .u64 0, .int .u64 0, .int .u64 0, .int .u64 0]) := by kernel_rfl
attribute [go_sem] Ct8
attribute [go_sem] Try.underlying209
attribute [go_sem] Try.underlying211
attribute [go_sem] Try.underlying213
attribute [go_sem] Try.underlying214
attribute [go_sem] Try.underlying215
attribute [go_sem] Try.underlying216
attribute [go_sem] Try.underlying217
attribute [go_sem] Try.underlying218
attribute [go_sem] Try.eqGuardType218
attribute [go_sem] Try.underlying219
attribute [go_sem] Try.eqGuardType219
attribute [go_sem] Try.underlying220
attribute [go_sem] Try.eqGuardType220
attribute [go_sem] Try.underlying221
attribute [go_sem] Try.eqGuardType221
attribute [go_sem] Try.underlying222
attribute [go_sem] Try.eqGuardType222
attribute [go_sem] Try.underlying223
attribute [go_sem] Try.underlying224
attribute [go_sem] Try.underlying225
attribute [go_sem] Try.underlying226
attribute [go_sem] Try.underlying227
attribute [go_sem] Try.underlying228
attribute [go_sem] Try.underlying229
attribute [go_sem] Try.underlying230
attribute [go_sem] Try.underlying231
attribute [go_sem] Try.eqGuardType231
attribute [go_sem] Try.underlying232
attribute [go_sem] Try.eqGuardType232
attribute [go_sem] Try.underlying233
attribute [go_sem] Try.underlying234
theorem en6 : C6 Try.prog 6 := fun args w => Try.call6 args w
theorem en8 : C6 Try.prog 8 := fun args w => Try.call8 args w
theorem en9 : C6 Try.prog 9 := fun args w => Try.call9 args w
theorem Cz7 : C6 Try.prog 11 := fun args w => Try.call11 args w
theorem Dk7 : C6 Try.prog 12 := fun args w => Try.call12 args w
theorem Dd6 : C6 Try.prog 13 := fun args w => Try.call13 args w
theorem Dk6 : C6 Try.prog 15 := fun args w => Try.call15 args w
theorem Dk5 : C6 Try.prog 18 := fun args w => Try.call18 args w
theorem Dk4 : C6 Try.prog 21 := fun args w => Try.call21 args w
theorem Dd5 : C6 Try.prog 22 := fun args w => Try.call22 args w
theorem Dk3 : C6 Try.prog 29 := fun args w => Try.call29 args w
theorem Dk2 : C6 Try.prog 30 := fun args w => Try.call30 args w
theorem Dk1 : C6 Try.prog 31 := fun args w => Try.call31 args w
theorem Dk0 : C6 Try.prog 32 := fun args w => Try.call32 args w
theorem Cy3 : C6 Try.prog 33 := fun args w => Try.call33 args w
theorem Dd4 : C6 Try.prog 34 := fun args w => Try.call34 args w
theorem Dj9 : C6 Try.prog 35 := fun args w => Try.call35 args w
theorem Dd3 : C6 Try.prog 37 := fun args w => Try.call37 args w
theorem Dj8 : C6 Try.prog 38 := fun args w => Try.call38 args w
theorem Dd2 : C6 Try.prog 41 := fun args w => Try.call41 args w
theorem Dj7 : C6 Try.prog 45 := fun args w => Try.call45 args w
theorem Dj6 : C6 Try.prog 47 := fun args w => Try.call47 args w
theorem Dj5 : C6 Try.prog 50 := fun args w => Try.call50 args w
theorem Dj4 : C6 Try.prog 51 := fun args w => Try.call51 args w
theorem Dj3 : C6 Try.prog 52 := fun args w => Try.call52 args w
theorem Dj2 : C6 Try.prog 56 := fun args w => Try.call56 args w
theorem Dj1 : C6 Try.prog 57 := fun args w => Try.call57 args w
theorem Dj0 : C6 Try.prog 58 := fun args w => Try.call58 args w
theorem Di9 : C6 Try.prog 59 := fun args w => Try.call59 args w
theorem Di8 : C6 Try.prog 60 := fun args w => Try.call60 args w
theorem Di7 : C6 Try.prog 61 := fun args w => Try.call61 args w
theorem Di6 : C6 Try.prog 76 := fun args w => Try.call76 args w
theorem Di5 : C6 Try.prog 79 := fun args w => Try.call79 args w
theorem Dd1 : C6 Try.prog 80 := fun args w => Try.call80 args w
theorem Cy2 : C6 Try.prog 81 := fun args w => Try.call81 args w
theorem Di4 : C6 Try.prog 85 := fun args w => Try.call85 args w
theorem Di3 : C6 Try.prog 86 := fun args w => Try.call86 args w
theorem Di2 : C6 Try.prog 87 := fun args w => Try.call87 args w
theorem Di1 : C6 Try.prog 94 := fun args w => Try.call94 args w
theorem Di0 : C6 Try.prog 95 := fun args w => Try.call95 args w
theorem Dd0 : C6 Try.prog 96 := fun args w => Try.call96 args w
theorem Cb8 : C6 Try.prog 100 := fun args w => Try.call100 args w
theorem Cz9 : C6 Try.prog 101 := fun args w => Try.call101 args w
theorem Cz8 : C6 Try.prog 102 := fun args w => Try.call102 args w
theorem Cq9 : C6 Try.prog 106 := fun args w => Try.call106 args w
theorem Cz6 : C6 Try.prog 112 := fun args w => Try.call112 args w
theorem Cz5 : C6 Try.prog 113 := fun args w => Try.call113 args w
theorem Cz4 : C6 Try.prog 116 := fun args w => Try.call116 args w
theorem Cb7 : C6 Try.prog 119 := fun args w => Try.call119 args w
theorem Cz3 : C6 Try.prog 120 := fun args w => Try.call120 args w
theorem Cz2 : C6 Try.prog 121 := fun args w => Try.call121 args w
theorem Cz1 : C6 Try.prog 124 := fun args w => Try.call124 args w
theorem Cz0 : C6 Try.prog 125 := fun args w => Try.call125 args w
theorem Cy9 : C6 Try.prog 126 := fun args w => Try.call126 args w
theorem Cy8 : C6 Try.prog 145 := fun args w => Try.call145 args w
theorem Cb6 : C6 Try.prog 146 := fun args w => Try.call146 args w
theorem Cy7 : C6 Try.prog 147 := fun args w => Try.call147 args w
theorem Cy6 : C6 Try.prog 148 := fun args w => Try.call148 args w
theorem Cy5 : C6 Try.prog 149 := fun args w => Try.call149 args w
theorem Cy4 : C6 Try.prog 150 := fun args w => Try.call150 args w
theorem mixed : Try.prog.follows .mixedOrders = true := by kernel_rfl
attribute [go_sem_proc] Nat.reduceBEq Nat.reduceAdd Nat.reduceMul Nat.reduceSub Nat.reduceLT Nat.reduceLeDiff Int.reduceToNat Int.reduceLT Int.reduceLE Int.reduceAdd Int.reduceMul Int.reduceSub Int.reduceNeg Int.reduceDiv Int.reduceMod Nat.reduceBNe Nat.reduceGT Int.reduceBEq Int.reduceBNe Int.reduceGT Nat.reduceDiv Nat.reduceMod Nat.reducePow Int.reducePow List.reduceReplicate
attribute [go_sem] gt_iff_lt ge_iff_le
end Go.Proofs.Ytncjbfkkgdepoaa
