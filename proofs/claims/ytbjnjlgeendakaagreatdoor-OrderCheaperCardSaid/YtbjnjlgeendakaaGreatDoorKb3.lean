/- Part of the proof: Facts on the types and the functions of this seat's program, one a row: printed by gen_T.py.. -/
import Derived.Test.YtbjnjlgeendakaaGreatDoorProg
import Derived.Test.YtbjnjlgeendakaaGreatDoorKb2
set_option linter.unusedVariables false
set_option linter.unusedSimpArgs false
namespace Go.Proofs.NV
open Go.Shelf
theorem mixed : Tryz.prog.follows .mixedOrders = true := by kernel_rfl
theorem ze3 : Ze Tryz.prog 3 (.int .i64 0) := by unfold Ze; kernel_rfl
theorem ze25 : Ze Tryz.prog 25 (.agg #[(.slice none 0 0), (.int .i64 0), (.int .i64 0), (.slice none 0 0)]) := by unfold Ze; kernel_rfl
theorem ze28 : Ze Tryz.prog 28 (.int .i64 0) := by unfold Ze; kernel_rfl
theorem ze33 : Ze Tryz.prog 33 (.slice none 0 0) := by unfold Ze; kernel_rfl
theorem ze35 : Ze Tryz.prog 35 (.agg #[(.slice none 0 0), (.slice none 0 0)]) := by unfold Ze; kernel_rfl
theorem ze47 : Ze Tryz.prog 47 (.agg #[(.int .i64 0), (.slice none 0 0)]) := by unfold Ze; kernel_rfl
theorem ze67 : Ze Tryz.prog 67 (.agg #[(.int .i64 0), (.int .i64 0), (.int .i64 0), (.int .i64 0)]) := by unfold Ze; kernel_rfl
theorem ze68 : Ze Tryz.prog 68 .nilFunc := by unfold Ze; kernel_rfl
theorem ze80 : Ze Tryz.prog 80 (.agg #[(.slice none 0 0), (.int .i64 0), (.int .i64 0)]) := by unfold Ze; kernel_rfl
theorem ze91 : Ze Tryz.prog 91 .nilFunc := by unfold Ze; kernel_rfl
theorem ze99 : Ze Tryz.prog 99 (.agg #[(.int .i64 0), (.int .i64 0), (.int .i64 0)]) := by unfold Ze; kernel_rfl
theorem ze103 : Ze Tryz.prog 103 (.agg #[(.int .i64 0), (.slice none 0 0), (.slice none 0 0)]) := by unfold Ze; kernel_rfl
theorem ze130 : Ze Tryz.prog 130 (.agg #[(.slice none 0 0), (.int .i64 0), (.int .i64 0), (.slice none 0 0), (.slice none 0 0)]) := by unfold Ze; kernel_rfl
theorem ze135 : Ze Tryz.prog 135 (.slice none 0 0) := by unfold Ze; kernel_rfl
theorem ze137 : Ze Tryz.prog 137 (.agg #[(.slice none 0 0), (.int .i64 0), (.int .i64 0)]) := by unfold Ze; kernel_rfl
theorem ze140 : Ze Tryz.prog 140 (.agg #[(.int .i64 0), (.int .i64 0), (.int .i64 0)]) := by unfold Ze; kernel_rfl
theorem ze148 : Ze Tryz.prog 148 (.agg #[(.int .i64 0)]) := by unfold Ze; kernel_rfl
theorem ze151 : Ze Tryz.prog 151 (.slice none 0 0) := by unfold Ze; kernel_rfl
theorem ze155 : Ze Tryz.prog 155 (.agg #[(.int .i64 0), (.slice none 0 0)]) := by unfold Ze; kernel_rfl
theorem ze164 : Ze Tryz.prog 164 (.agg #[(.int .i64 0), (.int .i64 0)]) := by unfold Ze; kernel_rfl
theorem ze167 : Ze Tryz.prog 167 (.agg #[(.slice none 0 0), (.int .i64 0)]) := by unfold Ze; kernel_rfl
theorem ze177 : Ze Tryz.prog 177 (.agg #[(.slice none 0 0), (.int .i64 0), (.int .i64 0)]) := by unfold Ze; kernel_rfl
theorem ze215 : Ze Tryz.prog 215 (.agg #[(.int .i64 0)]) := by unfold Ze; kernel_rfl
theorem ze220 : Ze Tryz.prog 220 (.agg #[(.string ⟨#[]⟩), (.string ⟨#[]⟩), (.string ⟨#[]⟩)]) := by unfold Ze; kernel_rfl
theorem ze229 : Ze Tryz.prog 229 (.agg #[(.string ⟨#[]⟩)]) := by unfold Ze; kernel_rfl
theorem ze278 : Ze Tryz.prog 278 (.int .u64 0) := by unfold Ze; kernel_rfl
theorem ze284 : Ze Tryz.prog 284 (.agg #[(.int .u8 0), (.int .u8 0), (.int .u8 0), (.int .u8 0), (.int .u8 0), (.int .u8 0), (.int .u8 0), (.int .u8 0), (.int .u8 0), (.int .u8 0), (.int .u8 0), (.int .u8 0), (.int .u8 0), (.int .u8 0), (.int .u8 0), (.int .u8 0), (.int .u8 0), (.int .u8 0), (.int .u8 0), (.int .u8 0), (.int .u8 0), (.int .u8 0), (.int .u8 0), (.int .u8 0)]) := by unfold Ze; kernel_rfl
theorem ze295 : Ze Tryz.prog 295 (.agg #[(.int .u8 0), (.int .u8 0), (.int .u8 0), (.int .u8 0), (.int .u8 0), (.int .u8 0), (.int .u8 0), (.int .u8 0), (.int .u8 0), (.int .u8 0), (.int .u8 0), (.int .u8 0), (.int .u8 0), (.int .u8 0), (.int .u8 0), (.int .u8 0), (.int .u8 0), (.int .u8 0), (.int .u8 0), (.int .u8 0), (.int .u8 0), (.int .u8 0), (.int .u8 0), (.int .u8 0), (.int .u8 0), (.int .u8 0), (.int .u8 0), (.int .u8 0), (.int .u8 0), (.int .u8 0), (.int .u8 0), (.int .u8 0), (.int .u8 0), (.int .u8 0), (.int .u8 0), (.int .u8 0), (.int .u8 0), (.int .u8 0), (.int .u8 0), (.int .u8 0), (.int .u8 0), (.int .u8 0), (.int .u8 0), (.int .u8 0), (.int .u8 0), (.int .u8 0), (.int .u8 0), (.int .u8 0), (.int .u8 0), (.int .u8 0), (.int .u8 0), (.int .u8 0), (.int .u8 0), (.int .u8 0), (.int .u8 0), (.int .u8 0), (.int .u8 0), (.int .u8 0), (.int .u8 0), (.int .u8 0), (.int .u8 0), (.int .u8 0), (.int .u8 0), (.int .u8 0), (.int .u8 0)]) := by unfold Ze; kernel_rfl
theorem ze298 : Ze Tryz.prog 298 (.agg #[(.int .u8 0), (.int .u8 0)]) := by unfold Ze; kernel_rfl
theorem ent3 : Ent Tryz.prog 3 := enters_of Tryz.func3 (by kernel_rfl) rfl
theorem ent4 : Ent Tryz.prog 4 := enters_of Tryz.func4 (by kernel_rfl) rfl
theorem ent5 : Ent Tryz.prog 5 := enters_of Tryz.func5 (by kernel_rfl) rfl
theorem ent6 : Ent Tryz.prog 6 := enters_of Tryz.func6 (by kernel_rfl) rfl
theorem ent7 : Ent Tryz.prog 7 := enters_of Tryz.func7 (by kernel_rfl) rfl
theorem ent8 : Ent Tryz.prog 8 := enters_of Tryz.func8 (by kernel_rfl) rfl
theorem ent9 : Ent Tryz.prog 9 := enters_of Tryz.func9 (by kernel_rfl) rfl
theorem ent10 : Ent Tryz.prog 10 := enters_of Tryz.func10 (by kernel_rfl) rfl
theorem ent11 : Ent Tryz.prog 11 := enters_of Tryz.func11 (by kernel_rfl) rfl
theorem ent12 : Ent Tryz.prog 12 := enters_of Tryz.func12 (by kernel_rfl) rfl
theorem ent13 : Ent Tryz.prog 13 := enters_of Tryz.func13 (by kernel_rfl) rfl
theorem ent14 : Ent Tryz.prog 14 := enters_of Tryz.func14 (by kernel_rfl) rfl
theorem ent15 : Ent Tryz.prog 15 := enters_of Tryz.func15 (by kernel_rfl) rfl
theorem ent16 : Ent Tryz.prog 16 := enters_of Tryz.func16 (by kernel_rfl) rfl
theorem ent17 : Ent Tryz.prog 17 := enters_of Tryz.func17 (by kernel_rfl) rfl
theorem ent18 : Ent Tryz.prog 18 := enters_of Tryz.func18 (by kernel_rfl) rfl
theorem ent19 : Ent Tryz.prog 19 := enters_of Tryz.func19 (by kernel_rfl) rfl
theorem ent20 : Ent Tryz.prog 20 := enters_of Tryz.func20 (by kernel_rfl) rfl
theorem ent21 : Ent Tryz.prog 21 := enters_of Tryz.func21 (by kernel_rfl) rfl
theorem ent22 : Ent Tryz.prog 22 := enters_of Tryz.func22 (by kernel_rfl) rfl
theorem ent23 : Ent Tryz.prog 23 := enters_of Tryz.func23 (by kernel_rfl) rfl
theorem ent24 : Ent Tryz.prog 24 := enters_of Tryz.func24 (by kernel_rfl) rfl
theorem ent25 : Ent Tryz.prog 25 := enters_of Tryz.func25 (by kernel_rfl) rfl
theorem ent26 : Ent Tryz.prog 26 := enters_of Tryz.func26 (by kernel_rfl) rfl
theorem ent27 : Ent Tryz.prog 27 := enters_of Tryz.func27 (by kernel_rfl) rfl
theorem ent28 : Ent Tryz.prog 28 := enters_of Tryz.func28 (by kernel_rfl) rfl
theorem ent29 : Ent Tryz.prog 29 := enters_of Tryz.func29 (by kernel_rfl) rfl
theorem ent30 : Ent Tryz.prog 30 := enters_of Tryz.func30 (by kernel_rfl) rfl
theorem ent31 : Ent Tryz.prog 31 := enters_of Tryz.func31 (by kernel_rfl) rfl
theorem ent32 : Ent Tryz.prog 32 := enters_of Tryz.func32 (by kernel_rfl) rfl
theorem ent33 : Ent Tryz.prog 33 := enters_of Tryz.func33 (by kernel_rfl) rfl
theorem ent34 : Ent Tryz.prog 34 := enters_of Tryz.func34 (by kernel_rfl) rfl
theorem ent35 : Ent Tryz.prog 35 := enters_of Tryz.func35 (by kernel_rfl) rfl
theorem ent36 : Ent Tryz.prog 36 := enters_of Tryz.func36 (by kernel_rfl) rfl
theorem ent37 : Ent Tryz.prog 37 := enters_of Tryz.func37 (by kernel_rfl) rfl
theorem ent38 : Ent Tryz.prog 38 := enters_of Tryz.func38 (by kernel_rfl) rfl
theorem ent39 : Ent Tryz.prog 39 := enters_of Tryz.func39 (by kernel_rfl) rfl
theorem ent40 : Ent Tryz.prog 40 := enters_of Tryz.func40 (by kernel_rfl) rfl
theorem ent41 : Ent Tryz.prog 41 := enters_of Tryz.func41 (by kernel_rfl) rfl
theorem ent42 : Ent Tryz.prog 42 := enters_of Tryz.func42 (by kernel_rfl) rfl
theorem ent43 : Ent Tryz.prog 43 := enters_of Tryz.func43 (by kernel_rfl) rfl
theorem ent44 : Ent Tryz.prog 44 := enters_of Tryz.func44 (by kernel_rfl) rfl
theorem ent45 : Ent Tryz.prog 45 := enters_of Tryz.func45 (by kernel_rfl) rfl
theorem ent46 : Ent Tryz.prog 46 := enters_of Tryz.func46 (by kernel_rfl) rfl
theorem ent47 : Ent Tryz.prog 47 := enters_of Tryz.func47 (by kernel_rfl) rfl
theorem ent48 : Ent Tryz.prog 48 := enters_of Tryz.func48 (by kernel_rfl) rfl
theorem ent49 : Ent Tryz.prog 49 := enters_of Tryz.func49 (by kernel_rfl) rfl
theorem ent50 : Ent Tryz.prog 50 := enters_of Tryz.func50 (by kernel_rfl) rfl
theorem ent51 : Ent Tryz.prog 51 := enters_of Tryz.func51 (by kernel_rfl) rfl
theorem ent52 : Ent Tryz.prog 52 := enters_of Tryz.func52 (by kernel_rfl) rfl
theorem ent53 : Ent Tryz.prog 53 := enters_of Tryz.func53 (by kernel_rfl) rfl
theorem ent54 : Ent Tryz.prog 54 := enters_of Tryz.func54 (by kernel_rfl) rfl
theorem ent55 : Ent Tryz.prog 55 := enters_of Tryz.func55 (by kernel_rfl) rfl
theorem ent56 : Ent Tryz.prog 56 := enters_of Tryz.func56 (by kernel_rfl) rfl
theorem ent57 : Ent Tryz.prog 57 := enters_of Tryz.func57 (by kernel_rfl) rfl
theorem ent58 : Ent Tryz.prog 58 := enters_of Tryz.func58 (by kernel_rfl) rfl
theorem ent59 : Ent Tryz.prog 59 := enters_of Tryz.func59 (by kernel_rfl) rfl
theorem ent60 : Ent Tryz.prog 60 := enters_of Tryz.func60 (by kernel_rfl) rfl
theorem ent61 : Ent Tryz.prog 61 := enters_of Tryz.func61 (by kernel_rfl) rfl
theorem ent62 : Ent Tryz.prog 62 := enters_of Tryz.func62 (by kernel_rfl) rfl
theorem ent63 : Ent Tryz.prog 63 := enters_of Tryz.func63 (by kernel_rfl) rfl
theorem ent64 : Ent Tryz.prog 64 := enters_of Tryz.func64 (by kernel_rfl) rfl
theorem ent65 : Ent Tryz.prog 65 := enters_of Tryz.func65 (by kernel_rfl) rfl
theorem ent66 : Ent Tryz.prog 66 := enters_of Tryz.func66 (by kernel_rfl) rfl
theorem ent67 : Ent Tryz.prog 67 := enters_of Tryz.func67 (by kernel_rfl) rfl
theorem ent68 : Ent Tryz.prog 68 := enters_of Tryz.func68 (by kernel_rfl) rfl
theorem ent69 : Ent Tryz.prog 69 := enters_of Tryz.func69 (by kernel_rfl) rfl
theorem ent70 : Ent Tryz.prog 70 := enters_of Tryz.func70 (by kernel_rfl) rfl
theorem ent71 : Ent Tryz.prog 71 := enters_of Tryz.func71 (by kernel_rfl) rfl
theorem ent72 : Ent Tryz.prog 72 := enters_of Tryz.func72 (by kernel_rfl) rfl
theorem ent73 : Ent Tryz.prog 73 := enters_of Tryz.func73 (by kernel_rfl) rfl
theorem ent74 : Ent Tryz.prog 74 := enters_of Tryz.func74 (by kernel_rfl) rfl
theorem ent75 : Ent Tryz.prog 75 := enters_of Tryz.func75 (by kernel_rfl) rfl
theorem ent76 : Ent Tryz.prog 76 := enters_of Tryz.func76 (by kernel_rfl) rfl
theorem ent77 : Ent Tryz.prog 77 := enters_of Tryz.func77 (by kernel_rfl) rfl
theorem ent78 : Ent Tryz.prog 78 := enters_of Tryz.func78 (by kernel_rfl) rfl
theorem ent79 : Ent Tryz.prog 79 := enters_of Tryz.func79 (by kernel_rfl) rfl
theorem ent80 : Ent Tryz.prog 80 := enters_of Tryz.func80 (by kernel_rfl) rfl
theorem ent81 : Ent Tryz.prog 81 := enters_of Tryz.func81 (by kernel_rfl) rfl
theorem ent82 : Ent Tryz.prog 82 := enters_of Tryz.func82 (by kernel_rfl) rfl
theorem ent83 : Ent Tryz.prog 83 := enters_of Tryz.func83 (by kernel_rfl) rfl
theorem ent84 : Ent Tryz.prog 84 := enters_of Tryz.func84 (by kernel_rfl) rfl
theorem ent85 : Ent Tryz.prog 85 := enters_of Tryz.func85 (by kernel_rfl) rfl
theorem ent86 : Ent Tryz.prog 86 := enters_of Tryz.func86 (by kernel_rfl) rfl
theorem ent87 : Ent Tryz.prog 87 := enters_of Tryz.func87 (by kernel_rfl) rfl
theorem ent88 : Ent Tryz.prog 88 := enters_of Tryz.func88 (by kernel_rfl) rfl
theorem ent89 : Ent Tryz.prog 89 := enters_of Tryz.func89 (by kernel_rfl) rfl
theorem ent90 : Ent Tryz.prog 90 := enters_of Tryz.func90 (by kernel_rfl) rfl
theorem ent91 : Ent Tryz.prog 91 := enters_of Tryz.func91 (by kernel_rfl) rfl
theorem ent92 : Ent Tryz.prog 92 := enters_of Tryz.func92 (by kernel_rfl) rfl
theorem ent93 : Ent Tryz.prog 93 := enters_of Tryz.func93 (by kernel_rfl) rfl
theorem ent94 : Ent Tryz.prog 94 := enters_of Tryz.func94 (by kernel_rfl) rfl
theorem ent95 : Ent Tryz.prog 95 := enters_of Tryz.func95 (by kernel_rfl) rfl
theorem ent96 : Ent Tryz.prog 96 := enters_of Tryz.func96 (by kernel_rfl) rfl
theorem ent97 : Ent Tryz.prog 97 := enters_of Tryz.func97 (by kernel_rfl) rfl
theorem ent98 : Ent Tryz.prog 98 := enters_of Tryz.func98 (by kernel_rfl) rfl
theorem ent99 : Ent Tryz.prog 99 := enters_of Tryz.func99 (by kernel_rfl) rfl
theorem ent100 : Ent Tryz.prog 100 := enters_of Tryz.func100 (by kernel_rfl) rfl
theorem ent101 : Ent Tryz.prog 101 := enters_of Tryz.func101 (by kernel_rfl) rfl
theorem ent102 : Ent Tryz.prog 102 := enters_of Tryz.func102 (by kernel_rfl) rfl
theorem ent103 : Ent Tryz.prog 103 := enters_of Tryz.func103 (by kernel_rfl) rfl
theorem ent104 : Ent Tryz.prog 104 := enters_of Tryz.func104 (by kernel_rfl) rfl
theorem ent105 : Ent Tryz.prog 105 := enters_of Tryz.func105 (by kernel_rfl) rfl
theorem ent106 : Ent Tryz.prog 106 := enters_of Tryz.func106 (by kernel_rfl) rfl
theorem ent107 : Ent Tryz.prog 107 := enters_of Tryz.func107 (by kernel_rfl) rfl
theorem ent108 : Ent Tryz.prog 108 := enters_of Tryz.func108 (by kernel_rfl) rfl
theorem ent109 : Ent Tryz.prog 109 := enters_of Tryz.func109 (by kernel_rfl) rfl
theorem ent110 : Ent Tryz.prog 110 := enters_of Tryz.func110 (by kernel_rfl) rfl
theorem ent111 : Ent Tryz.prog 111 := enters_of Tryz.func111 (by kernel_rfl) rfl
theorem ent112 : Ent Tryz.prog 112 := enters_of Tryz.func112 (by kernel_rfl) rfl
theorem ent113 : Ent Tryz.prog 113 := enters_of Tryz.func113 (by kernel_rfl) rfl
theorem ent114 : Ent Tryz.prog 114 := enters_of Tryz.func114 (by kernel_rfl) rfl
theorem ent115 : Ent Tryz.prog 115 := enters_of Tryz.func115 (by kernel_rfl) rfl
theorem ent116 : Ent Tryz.prog 116 := enters_of Tryz.func116 (by kernel_rfl) rfl
theorem ent117 : Ent Tryz.prog 117 := enters_of Tryz.func117 (by kernel_rfl) rfl
theorem ent118 : Ent Tryz.prog 118 := enters_of Tryz.func118 (by kernel_rfl) rfl
theorem ent119 : Ent Tryz.prog 119 := enters_of Tryz.func119 (by kernel_rfl) rfl
theorem ent120 : Ent Tryz.prog 120 := enters_of Tryz.func120 (by kernel_rfl) rfl
theorem ent121 : Ent Tryz.prog 121 := enters_of Tryz.func121 (by kernel_rfl) rfl
theorem ent122 : Ent Tryz.prog 122 := enters_of Tryz.func122 (by kernel_rfl) rfl
theorem ent123 : Ent Tryz.prog 123 := enters_of Tryz.func123 (by kernel_rfl) rfl
theorem ent124 : Ent Tryz.prog 124 := enters_of Tryz.func124 (by kernel_rfl) rfl
theorem ent125 : Ent Tryz.prog 125 := enters_of Tryz.func125 (by kernel_rfl) rfl
theorem ent126 : Ent Tryz.prog 126 := enters_of Tryz.func126 (by kernel_rfl) rfl
theorem ent127 : Ent Tryz.prog 127 := enters_of Tryz.func127 (by kernel_rfl) rfl
theorem ent128 : Ent Tryz.prog 128 := enters_of Tryz.func128 (by kernel_rfl) rfl
theorem ent129 : Ent Tryz.prog 129 := enters_of Tryz.func129 (by kernel_rfl) rfl
theorem ent130 : Ent Tryz.prog 130 := enters_of Tryz.func130 (by kernel_rfl) rfl
theorem ent131 : Ent Tryz.prog 131 := enters_of Tryz.func131 (by kernel_rfl) rfl
theorem ent132 : Ent Tryz.prog 132 := enters_of Tryz.func132 (by kernel_rfl) rfl
theorem ent133 : Ent Tryz.prog 133 := enters_of Tryz.func133 (by kernel_rfl) rfl
theorem ent134 : Ent Tryz.prog 134 := enters_of Tryz.func134 (by kernel_rfl) rfl
theorem ent135 : Ent Tryz.prog 135 := enters_of Tryz.func135 (by kernel_rfl) rfl
theorem ent136 : Ent Tryz.prog 136 := enters_of Tryz.func136 (by kernel_rfl) rfl
theorem ent137 : Ent Tryz.prog 137 := enters_of Tryz.func137 (by kernel_rfl) rfl
theorem ent138 : Ent Tryz.prog 138 := enters_of Tryz.func138 (by kernel_rfl) rfl
theorem ent139 : Ent Tryz.prog 139 := enters_of Tryz.func139 (by kernel_rfl) rfl
theorem ent140 : Ent Tryz.prog 140 := enters_of Tryz.func140 (by kernel_rfl) rfl
theorem ent141 : Ent Tryz.prog 141 := enters_of Tryz.func141 (by kernel_rfl) rfl
theorem ent142 : Ent Tryz.prog 142 := enters_of Tryz.func142 (by kernel_rfl) rfl
theorem ent143 : Ent Tryz.prog 143 := enters_of Tryz.func143 (by kernel_rfl) rfl
theorem ent144 : Ent Tryz.prog 144 := enters_of Tryz.func144 (by kernel_rfl) rfl
theorem ent145 : Ent Tryz.prog 145 := enters_of Tryz.func145 (by kernel_rfl) rfl
theorem ent146 : Ent Tryz.prog 146 := enters_of Tryz.func146 (by kernel_rfl) rfl
theorem ent147 : Ent Tryz.prog 147 := enters_of Tryz.func147 (by kernel_rfl) rfl
theorem ent148 : Ent Tryz.prog 148 := enters_of Tryz.func148 (by kernel_rfl) rfl
theorem ent149 : Ent Tryz.prog 149 := enters_of Tryz.func149 (by kernel_rfl) rfl
theorem ent150 : Ent Tryz.prog 150 := enters_of Tryz.func150 (by kernel_rfl) rfl
theorem ent151 : Ent Tryz.prog 151 := enters_of Tryz.func151 (by kernel_rfl) rfl
theorem ent152 : Ent Tryz.prog 152 := enters_of Tryz.func152 (by kernel_rfl) rfl
theorem ent153 : Ent Tryz.prog 153 := enters_of Tryz.func153 (by kernel_rfl) rfl
theorem ent154 : Ent Tryz.prog 154 := enters_of Tryz.func154 (by kernel_rfl) rfl
theorem ent155 : Ent Tryz.prog 155 := enters_of Tryz.func155 (by kernel_rfl) rfl
theorem ent156 : Ent Tryz.prog 156 := enters_of Tryz.func156 (by kernel_rfl) rfl
theorem ent157 : Ent Tryz.prog 157 := enters_of Tryz.func157 (by kernel_rfl) rfl
theorem ent158 : Ent Tryz.prog 158 := enters_of Tryz.func158 (by kernel_rfl) rfl
theorem ent159 : Ent Tryz.prog 159 := enters_of Tryz.func159 (by kernel_rfl) rfl
theorem ent160 : Ent Tryz.prog 160 := enters_of Tryz.func160 (by kernel_rfl) rfl
theorem ent161 : Ent Tryz.prog 161 := enters_of Tryz.func161 (by kernel_rfl) rfl
theorem ent162 : Ent Tryz.prog 162 := enters_of Tryz.func162 (by kernel_rfl) rfl
theorem ent163 : Ent Tryz.prog 163 := enters_of Tryz.func163 (by kernel_rfl) rfl
theorem ent164 : Ent Tryz.prog 164 := enters_of Tryz.func164 (by kernel_rfl) rfl
theorem ent165 : Ent Tryz.prog 165 := enters_of Tryz.func165 (by kernel_rfl) rfl
theorem ent166 : Ent Tryz.prog 166 := enters_of Tryz.func166 (by kernel_rfl) rfl
theorem ent167 : Ent Tryz.prog 167 := enters_of Tryz.func167 (by kernel_rfl) rfl
theorem ent168 : Ent Tryz.prog 168 := enters_of Tryz.func168 (by kernel_rfl) rfl
theorem ent169 : Ent Tryz.prog 169 := enters_of Tryz.func169 (by kernel_rfl) rfl
theorem ent170 : Ent Tryz.prog 170 := enters_of Tryz.func170 (by kernel_rfl) rfl
theorem ent171 : Ent Tryz.prog 171 := enters_of Tryz.func171 (by kernel_rfl) rfl
theorem ent172 : Ent Tryz.prog 172 := enters_of Tryz.func172 (by kernel_rfl) rfl
theorem ent173 : Ent Tryz.prog 173 := enters_of Tryz.func173 (by kernel_rfl) rfl
theorem ent174 : Ent Tryz.prog 174 := enters_of Tryz.func174 (by kernel_rfl) rfl
theorem ent175 : Ent Tryz.prog 175 := enters_of Tryz.func175 (by kernel_rfl) rfl
theorem ent176 : Ent Tryz.prog 176 := enters_of Tryz.func176 (by kernel_rfl) rfl
theorem ent177 : Ent Tryz.prog 177 := enters_of Tryz.func177 (by kernel_rfl) rfl
theorem ent178 : Ent Tryz.prog 178 := enters_of Tryz.func178 (by kernel_rfl) rfl
theorem ent179 : Ent Tryz.prog 179 := enters_of Tryz.func179 (by kernel_rfl) rfl
theorem ent180 : Ent Tryz.prog 180 := enters_of Tryz.func180 (by kernel_rfl) rfl
theorem ent181 : Ent Tryz.prog 181 := enters_of Tryz.func181 (by kernel_rfl) rfl
theorem ent182 : Ent Tryz.prog 182 := enters_of Tryz.func182 (by kernel_rfl) rfl
theorem ent183 : Ent Tryz.prog 183 := enters_of Tryz.func183 (by kernel_rfl) rfl
theorem ent184 : Ent Tryz.prog 184 := enters_of Tryz.func184 (by kernel_rfl) rfl
theorem ent185 : Ent Tryz.prog 185 := enters_of Tryz.func185 (by kernel_rfl) rfl
theorem ent186 : Ent Tryz.prog 186 := enters_of Tryz.func186 (by kernel_rfl) rfl
theorem ent187 : Ent Tryz.prog 187 := enters_of Tryz.func187 (by kernel_rfl) rfl
theorem ent188 : Ent Tryz.prog 188 := enters_of Tryz.func188 (by kernel_rfl) rfl
theorem ent189 : Ent Tryz.prog 189 := enters_of Tryz.func189 (by kernel_rfl) rfl
theorem ent190 : Ent Tryz.prog 190 := enters_of Tryz.func190 (by kernel_rfl) rfl
theorem ent191 : Ent Tryz.prog 191 := enters_of Tryz.func191 (by kernel_rfl) rfl
theorem ent192 : Ent Tryz.prog 192 := enters_of Tryz.func192 (by kernel_rfl) rfl
theorem ent193 : Ent Tryz.prog 193 := enters_of Tryz.func193 (by kernel_rfl) rfl
theorem ent194 : Ent Tryz.prog 194 := enters_of Tryz.func194 (by kernel_rfl) rfl
theorem ent195 : Ent Tryz.prog 195 := enters_of Tryz.func195 (by kernel_rfl) rfl
theorem ent196 : Ent Tryz.prog 196 := enters_of Tryz.func196 (by kernel_rfl) rfl
theorem ent197 : Ent Tryz.prog 197 := enters_of Tryz.func197 (by kernel_rfl) rfl
theorem ent198 : Ent Tryz.prog 198 := enters_of Tryz.func198 (by kernel_rfl) rfl
theorem ent199 : Ent Tryz.prog 199 := enters_of Tryz.func199 (by kernel_rfl) rfl
theorem ent200 : Ent Tryz.prog 200 := enters_of Tryz.func200 (by kernel_rfl) rfl
theorem ent201 : Ent Tryz.prog 201 := enters_of Tryz.func201 (by kernel_rfl) rfl
theorem ent202 : Ent Tryz.prog 202 := enters_of Tryz.func202 (by kernel_rfl) rfl
theorem ent203 : Ent Tryz.prog 203 := enters_of Tryz.func203 (by kernel_rfl) rfl
theorem ent204 : Ent Tryz.prog 204 := enters_of Tryz.func204 (by kernel_rfl) rfl
theorem ent205 : Ent Tryz.prog 205 := enters_of Tryz.func205 (by kernel_rfl) rfl
theorem ent206 : Ent Tryz.prog 206 := enters_of Tryz.func206 (by kernel_rfl) rfl
theorem ent207 : Ent Tryz.prog 207 := enters_of Tryz.func207 (by kernel_rfl) rfl
theorem ent208 : Ent Tryz.prog 208 := enters_of Tryz.func208 (by kernel_rfl) rfl
theorem ent209 : Ent Tryz.prog 209 := enters_of Tryz.func209 (by kernel_rfl) rfl
theorem ent210 : Ent Tryz.prog 210 := enters_of Tryz.func210 (by kernel_rfl) rfl
theorem ent211 : Ent Tryz.prog 211 := enters_of Tryz.func211 (by kernel_rfl) rfl
theorem ent212 : Ent Tryz.prog 212 := enters_of Tryz.func212 (by kernel_rfl) rfl
theorem ent213 : Ent Tryz.prog 213 := enters_of Tryz.func213 (by kernel_rfl) rfl
theorem ent214 : Ent Tryz.prog 214 := enters_of Tryz.func214 (by kernel_rfl) rfl
theorem ent215 : Ent Tryz.prog 215 := enters_of Tryz.func215 (by kernel_rfl) rfl
theorem ent216 : Ent Tryz.prog 216 := enters_of Tryz.func216 (by kernel_rfl) rfl
theorem ent217 : Ent Tryz.prog 217 := enters_of Tryz.func217 (by kernel_rfl) rfl
theorem ent218 : Ent Tryz.prog 218 := enters_of Tryz.func218 (by kernel_rfl) rfl
theorem ent219 : Ent Tryz.prog 219 := enters_of Tryz.func219 (by kernel_rfl) rfl
theorem ent220 : Ent Tryz.prog 220 := enters_of Tryz.func220 (by kernel_rfl) rfl
theorem ent221 : Ent Tryz.prog 221 := enters_of Tryz.func221 (by kernel_rfl) rfl
theorem ent222 : Ent Tryz.prog 222 := enters_of Tryz.func222 (by kernel_rfl) rfl
theorem ent223 : Ent Tryz.prog 223 := enters_of Tryz.func223 (by kernel_rfl) rfl
theorem ent224 : Ent Tryz.prog 224 := enters_of Tryz.func224 (by kernel_rfl) rfl
theorem ent225 : Ent Tryz.prog 225 := enters_of Tryz.func225 (by kernel_rfl) rfl
theorem ent226 : Ent Tryz.prog 226 := enters_of Tryz.func226 (by kernel_rfl) rfl
theorem ent227 : Ent Tryz.prog 227 := enters_of Tryz.func227 (by kernel_rfl) rfl
theorem ent229 : Ent Tryz.prog 229 := enters_of Tryz.func229 (by kernel_rfl) rfl
theorem ent230 : Ent Tryz.prog 230 := enters_of Tryz.func230 (by kernel_rfl) rfl
theorem ent231 : Ent Tryz.prog 231 := enters_of Tryz.func231 (by kernel_rfl) rfl
theorem ent232 : Ent Tryz.prog 232 := enters_of Tryz.func232 (by kernel_rfl) rfl
theorem ent233 : Ent Tryz.prog 233 := enters_of Tryz.func233 (by kernel_rfl) rfl
theorem ent234 : Ent Tryz.prog 234 := enters_of Tryz.func234 (by kernel_rfl) rfl
theorem ent235 : Ent Tryz.prog 235 := enters_of Tryz.func235 (by kernel_rfl) rfl
theorem ent236 : Ent Tryz.prog 236 := enters_of Tryz.func236 (by kernel_rfl) rfl
theorem ent237 : Ent Tryz.prog 237 := enters_of Tryz.func237 (by kernel_rfl) rfl
theorem ent239 : Ent Tryz.prog 239 := enters_of Tryz.func239 (by kernel_rfl) rfl
theorem ent240 : Ent Tryz.prog 240 := enters_of Tryz.func240 (by kernel_rfl) rfl
theorem ent241 : Ent Tryz.prog 241 := enters_of Tryz.func241 (by kernel_rfl) rfl
theorem ent242 : Ent Tryz.prog 242 := enters_of Tryz.func242 (by kernel_rfl) rfl
theorem ent244 : Ent Tryz.prog 244 := enters_of Tryz.func244 (by kernel_rfl) rfl
theorem ent260 : Ent Tryz.prog 260 := enters_of Tryz.func260 (by kernel_rfl) rfl
theorem ent261 : Ent Tryz.prog 261 := enters_of Tryz.func261 (by kernel_rfl) rfl
theorem ent262 : Ent Tryz.prog 262 := enters_of Tryz.func262 (by kernel_rfl) rfl
theorem sc1 : Sc Tryz.prog 1 := ⟨⟨_, Tryz.underlying1, rfl⟩, by kernel_rfl⟩
theorem sc2 : Sc Tryz.prog 2 := ⟨⟨_, Tryz.underlying2, rfl⟩, by kernel_rfl⟩
theorem sc3 : Sc Tryz.prog 3 := ⟨⟨_, Tryz.underlying3, rfl⟩, by kernel_rfl⟩
theorem sc4 : Sc Tryz.prog 4 := ⟨⟨_, Tryz.underlying4, rfl⟩, by kernel_rfl⟩
theorem sc5 : Sc Tryz.prog 5 := ⟨⟨_, Tryz.underlying5, rfl⟩, by kernel_rfl⟩
theorem sc9 : Sc Tryz.prog 9 := ⟨⟨_, Tryz.underlying9, rfl⟩, by kernel_rfl⟩
theorem sc21 : Sc Tryz.prog 21 := ⟨⟨_, Tryz.underlying21, rfl⟩, by kernel_rfl⟩
theorem sc22 : Sc Tryz.prog 22 := ⟨⟨_, Tryz.underlying22, rfl⟩, by kernel_rfl⟩
theorem sc23 : Sc Tryz.prog 23 := ⟨⟨_, Tryz.underlying23, rfl⟩, by kernel_rfl⟩
theorem sc28 : Sc Tryz.prog 28 := ⟨⟨_, Tryz.underlying28, rfl⟩, by kernel_rfl⟩
theorem sc33 : Sc Tryz.prog 33 := ⟨⟨_, Tryz.underlying33, rfl⟩, by kernel_rfl⟩
theorem sc45 : Sc Tryz.prog 45 := ⟨⟨_, Tryz.underlying45, rfl⟩, by kernel_rfl⟩
theorem sc56 : Sc Tryz.prog 56 := ⟨⟨_, Tryz.underlying56, rfl⟩, by kernel_rfl⟩
theorem sc59 : Sc Tryz.prog 59 := ⟨⟨_, Tryz.underlying59, rfl⟩, by kernel_rfl⟩
theorem sc68 : Sc Tryz.prog 68 := ⟨⟨_, Tryz.underlying68, rfl⟩, by kernel_rfl⟩
theorem sc72 : Sc Tryz.prog 72 := ⟨⟨_, Tryz.underlying72, rfl⟩, by kernel_rfl⟩
theorem sc74 : Sc Tryz.prog 74 := ⟨⟨_, Tryz.underlying74, rfl⟩, by kernel_rfl⟩
theorem sc78 : Sc Tryz.prog 78 := ⟨⟨_, Tryz.underlying78, rfl⟩, by kernel_rfl⟩
theorem sc87 : Sc Tryz.prog 87 := ⟨⟨_, Tryz.underlying87, rfl⟩, by kernel_rfl⟩
theorem sc91 : Sc Tryz.prog 91 := ⟨⟨_, Tryz.underlying91, rfl⟩, by kernel_rfl⟩
theorem sc114 : Sc Tryz.prog 114 := ⟨⟨_, Tryz.underlying114, rfl⟩, by kernel_rfl⟩
theorem sc128 : Sc Tryz.prog 128 := ⟨⟨_, Tryz.underlying128, rfl⟩, by kernel_rfl⟩
theorem sc133 : Sc Tryz.prog 133 := ⟨⟨_, Tryz.underlying133, rfl⟩, by kernel_rfl⟩
theorem sc134 : Sc Tryz.prog 134 := ⟨⟨_, Tryz.underlying134, rfl⟩, by kernel_rfl⟩
theorem sc135 : Sc Tryz.prog 135 := ⟨⟨_, Tryz.underlying135, rfl⟩, by kernel_rfl⟩
theorem sc143 : Sc Tryz.prog 143 := ⟨⟨_, Tryz.underlying143, rfl⟩, by kernel_rfl⟩
theorem sc150 : Sc Tryz.prog 150 := ⟨⟨_, Tryz.underlying150, rfl⟩, by kernel_rfl⟩
theorem sc151 : Sc Tryz.prog 151 := ⟨⟨_, Tryz.underlying151, rfl⟩, by kernel_rfl⟩
theorem sc165 : Sc Tryz.prog 165 := ⟨⟨_, Tryz.underlying165, rfl⟩, by kernel_rfl⟩
theorem sc168 : Sc Tryz.prog 168 := ⟨⟨_, Tryz.underlying168, rfl⟩, by kernel_rfl⟩
theorem sc172 : Sc Tryz.prog 172 := ⟨⟨_, Tryz.underlying172, rfl⟩, by kernel_rfl⟩
theorem sc173 : Sc Tryz.prog 173 := ⟨⟨_, Tryz.underlying173, rfl⟩, by kernel_rfl⟩
theorem sc182 : Sc Tryz.prog 182 := ⟨⟨_, Tryz.underlying182, rfl⟩, by kernel_rfl⟩
theorem sc186 : Sc Tryz.prog 186 := ⟨⟨_, Tryz.underlying186, rfl⟩, by kernel_rfl⟩
theorem sc201 : Sc Tryz.prog 201 := ⟨⟨_, Tryz.underlying201, rfl⟩, by kernel_rfl⟩
theorem sc204 : Sc Tryz.prog 204 := ⟨⟨_, Tryz.underlying204, rfl⟩, by kernel_rfl⟩
theorem sc207 : Sc Tryz.prog 207 := ⟨⟨_, Tryz.underlying207, rfl⟩, by kernel_rfl⟩
theorem sc209 : Sc Tryz.prog 209 := ⟨⟨_, Tryz.underlying209, rfl⟩, by kernel_rfl⟩
theorem sc212 : Sc Tryz.prog 212 := ⟨⟨_, Tryz.underlying212, rfl⟩, by kernel_rfl⟩
theorem sc217 : Sc Tryz.prog 217 := ⟨⟨_, Tryz.underlying217, rfl⟩, by kernel_rfl⟩
theorem sc219 : Sc Tryz.prog 219 := ⟨⟨_, Tryz.underlying219, rfl⟩, by kernel_rfl⟩
theorem sc222 : Sc Tryz.prog 222 := ⟨⟨_, Tryz.underlying222, rfl⟩, by kernel_rfl⟩
theorem sc225 : Sc Tryz.prog 225 := ⟨⟨_, Tryz.underlying225, rfl⟩, by kernel_rfl⟩
theorem sc238 : Sc Tryz.prog 238 := ⟨⟨_, Tryz.underlying238, rfl⟩, by kernel_rfl⟩
theorem sc239 : Sc Tryz.prog 239 := ⟨⟨_, Tryz.underlying239, rfl⟩, by kernel_rfl⟩
theorem sc240 : Sc Tryz.prog 240 := ⟨⟨_, Tryz.underlying240, rfl⟩, by kernel_rfl⟩
theorem sc242 : Sc Tryz.prog 242 := ⟨⟨_, Tryz.underlying242, rfl⟩, by kernel_rfl⟩
theorem sc245 : Sc Tryz.prog 245 := ⟨⟨_, Tryz.underlying245, rfl⟩, by kernel_rfl⟩
theorem sc270 : Sc Tryz.prog 270 := ⟨⟨_, Tryz.underlying270, rfl⟩, by kernel_rfl⟩
theorem sc272 : Sc Tryz.prog 272 := ⟨⟨_, Tryz.underlying272, rfl⟩, by kernel_rfl⟩
theorem sc278 : Sc Tryz.prog 278 := ⟨⟨_, Tryz.underlying278, rfl⟩, by kernel_rfl⟩
theorem sc282 : Sc Tryz.prog 282 := ⟨⟨_, Tryz.underlying282, rfl⟩, by kernel_rfl⟩
theorem ag25 : Ag Tryz.prog 25 4 := ⟨⟨_, Tryz.underlying25, rfl⟩, by kernel_rfl⟩
theorem ag35 : Ag Tryz.prog 35 2 := ⟨⟨_, Tryz.underlying35, rfl⟩, by kernel_rfl⟩
theorem ag47 : Ag Tryz.prog 47 2 := ⟨⟨_, Tryz.underlying47, rfl⟩, by kernel_rfl⟩
theorem ag49 : Ag Tryz.prog 49 1 := ⟨⟨_, Tryz.underlying49, rfl⟩, by kernel_rfl⟩
theorem ag65 : Ag Tryz.prog 65 2 := ⟨⟨_, Tryz.underlying65, rfl⟩, by kernel_rfl⟩
theorem ag67 : Ag Tryz.prog 67 4 := ⟨⟨_, Tryz.underlying67, rfl⟩, by kernel_rfl⟩
theorem ag80 : Ag Tryz.prog 80 3 := ⟨⟨_, Tryz.underlying80, rfl⟩, by kernel_rfl⟩
theorem ag99 : Ag Tryz.prog 99 3 := ⟨⟨_, Tryz.underlying99, rfl⟩, by kernel_rfl⟩
theorem ag103 : Ag Tryz.prog 103 3 := ⟨⟨_, Tryz.underlying103, rfl⟩, by kernel_rfl⟩
theorem ag130 : Ag Tryz.prog 130 5 := ⟨⟨_, Tryz.underlying130, rfl⟩, by kernel_rfl⟩
theorem ag137 : Ag Tryz.prog 137 3 := ⟨⟨_, Tryz.underlying137, rfl⟩, by kernel_rfl⟩
theorem ag140 : Ag Tryz.prog 140 3 := ⟨⟨_, Tryz.underlying140, rfl⟩, by kernel_rfl⟩
theorem ag148 : Ag Tryz.prog 148 1 := ⟨⟨_, Tryz.underlying148, rfl⟩, by kernel_rfl⟩
theorem ag155 : Ag Tryz.prog 155 2 := ⟨⟨_, Tryz.underlying155, rfl⟩, by kernel_rfl⟩
theorem ag164 : Ag Tryz.prog 164 2 := ⟨⟨_, Tryz.underlying164, rfl⟩, by kernel_rfl⟩
theorem ag167 : Ag Tryz.prog 167 2 := ⟨⟨_, Tryz.underlying167, rfl⟩, by kernel_rfl⟩
theorem ag170 : Ag Tryz.prog 170 2 := ⟨⟨_, Tryz.underlying170, rfl⟩, by kernel_rfl⟩
theorem ag177 : Ag Tryz.prog 177 3 := ⟨⟨_, Tryz.underlying177, rfl⟩, by kernel_rfl⟩
theorem ag197 : Ag Tryz.prog 197 2 := ⟨⟨_, Tryz.underlying197, rfl⟩, by kernel_rfl⟩
theorem ag215 : Ag Tryz.prog 215 1 := ⟨⟨_, Tryz.underlying215, rfl⟩, by kernel_rfl⟩
theorem ag220 : Ag Tryz.prog 220 3 := ⟨⟨_, Tryz.underlying220, rfl⟩, by kernel_rfl⟩
theorem ag229 : Ag Tryz.prog 229 1 := ⟨⟨_, Tryz.underlying229, rfl⟩, by kernel_rfl⟩
theorem ag253 : Ag Tryz.prog 253 2 := ⟨⟨_, Tryz.underlying253, rfl⟩, by kernel_rfl⟩
theorem ag255 : Ag Tryz.prog 255 1 := ⟨⟨_, Tryz.underlying255, rfl⟩, by kernel_rfl⟩
theorem ag257 : Ag Tryz.prog 257 3 := ⟨⟨_, Tryz.underlying257, rfl⟩, by kernel_rfl⟩
theorem ag284 : Ag Tryz.prog 284 24 := ⟨⟨_, Tryz.underlying284, rfl⟩, by kernel_rfl⟩
theorem ag294 : Ag Tryz.prog 294 20 := ⟨⟨_, Tryz.underlying294, rfl⟩, by kernel_rfl⟩
theorem ag295 : Ag Tryz.prog 295 65 := ⟨⟨_, Tryz.underlying295, rfl⟩, by kernel_rfl⟩
theorem ag296 : Ag Tryz.prog 296 256 := ⟨⟨_, Tryz.underlying296, rfl⟩, by kernel_rfl⟩
theorem ag298 : Ag Tryz.prog 298 2 := ⟨⟨_, Tryz.underlying298, rfl⟩, by kernel_rfl⟩
theorem ag299 : Ag Tryz.prog 299 32 := ⟨⟨_, Tryz.underlying299, rfl⟩, by kernel_rfl⟩
theorem ag302 : Ag Tryz.prog 302 32 := ⟨⟨_, Tryz.underlying302, rfl⟩, by kernel_rfl⟩
theorem ag303 : Ag Tryz.prog 303 64 := ⟨⟨_, Tryz.underlying303, rfl⟩, by kernel_rfl⟩
theorem sz1 : (Tryz.prog.info? 1).map (·.size) = some 1 := by kernel_rfl
theorem sz2 : (Tryz.prog.info? 2).map (·.size) = some 1 := by kernel_rfl
theorem sz3 : (Tryz.prog.info? 3).map (·.size) = some 1 := by kernel_rfl
theorem sz4 : (Tryz.prog.info? 4).map (·.size) = some 1 := by kernel_rfl
theorem sz5 : (Tryz.prog.info? 5).map (·.size) = some 1 := by kernel_rfl
theorem sz9 : (Tryz.prog.info? 9).map (·.size) = some 1 := by kernel_rfl
theorem sz21 : (Tryz.prog.info? 21).map (·.size) = some 1 := by kernel_rfl
theorem sz22 : (Tryz.prog.info? 22).map (·.size) = some 1 := by kernel_rfl
theorem sz23 : (Tryz.prog.info? 23).map (·.size) = some 1 := by kernel_rfl
theorem sz25 : (Tryz.prog.info? 25).map (·.size) = some 4 := by kernel_rfl
theorem sz28 : (Tryz.prog.info? 28).map (·.size) = some 1 := by kernel_rfl
theorem sz33 : (Tryz.prog.info? 33).map (·.size) = some 1 := by kernel_rfl
theorem sz35 : (Tryz.prog.info? 35).map (·.size) = some 2 := by kernel_rfl
theorem sz45 : (Tryz.prog.info? 45).map (·.size) = some 1 := by kernel_rfl
theorem sz47 : (Tryz.prog.info? 47).map (·.size) = some 2 := by kernel_rfl
theorem sz49 : (Tryz.prog.info? 49).map (·.size) = some 1 := by kernel_rfl
theorem sz56 : (Tryz.prog.info? 56).map (·.size) = some 1 := by kernel_rfl
theorem sz59 : (Tryz.prog.info? 59).map (·.size) = some 1 := by kernel_rfl
theorem sz65 : (Tryz.prog.info? 65).map (·.size) = some 2 := by kernel_rfl
theorem sz67 : (Tryz.prog.info? 67).map (·.size) = some 4 := by kernel_rfl
theorem sz68 : (Tryz.prog.info? 68).map (·.size) = some 1 := by kernel_rfl
theorem sz72 : (Tryz.prog.info? 72).map (·.size) = some 1 := by kernel_rfl
theorem sz74 : (Tryz.prog.info? 74).map (·.size) = some 1 := by kernel_rfl
theorem sz78 : (Tryz.prog.info? 78).map (·.size) = some 1 := by kernel_rfl
theorem sz80 : (Tryz.prog.info? 80).map (·.size) = some 3 := by kernel_rfl
theorem sz87 : (Tryz.prog.info? 87).map (·.size) = some 1 := by kernel_rfl
theorem sz91 : (Tryz.prog.info? 91).map (·.size) = some 1 := by kernel_rfl
theorem sz99 : (Tryz.prog.info? 99).map (·.size) = some 3 := by kernel_rfl
theorem sz103 : (Tryz.prog.info? 103).map (·.size) = some 3 := by kernel_rfl
theorem sz114 : (Tryz.prog.info? 114).map (·.size) = some 1 := by kernel_rfl
theorem sz128 : (Tryz.prog.info? 128).map (·.size) = some 1 := by kernel_rfl
theorem sz130 : (Tryz.prog.info? 130).map (·.size) = some 5 := by kernel_rfl
theorem sz133 : (Tryz.prog.info? 133).map (·.size) = some 1 := by kernel_rfl
theorem sz134 : (Tryz.prog.info? 134).map (·.size) = some 1 := by kernel_rfl
theorem sz135 : (Tryz.prog.info? 135).map (·.size) = some 1 := by kernel_rfl
theorem sz137 : (Tryz.prog.info? 137).map (·.size) = some 3 := by kernel_rfl
theorem sz140 : (Tryz.prog.info? 140).map (·.size) = some 3 := by kernel_rfl
theorem sz143 : (Tryz.prog.info? 143).map (·.size) = some 1 := by kernel_rfl
theorem sz148 : (Tryz.prog.info? 148).map (·.size) = some 1 := by kernel_rfl
theorem sz150 : (Tryz.prog.info? 150).map (·.size) = some 1 := by kernel_rfl
theorem sz151 : (Tryz.prog.info? 151).map (·.size) = some 1 := by kernel_rfl
theorem sz155 : (Tryz.prog.info? 155).map (·.size) = some 2 := by kernel_rfl
theorem sz164 : (Tryz.prog.info? 164).map (·.size) = some 2 := by kernel_rfl
theorem sz165 : (Tryz.prog.info? 165).map (·.size) = some 1 := by kernel_rfl
theorem sz167 : (Tryz.prog.info? 167).map (·.size) = some 2 := by kernel_rfl
theorem sz168 : (Tryz.prog.info? 168).map (·.size) = some 1 := by kernel_rfl
theorem sz170 : (Tryz.prog.info? 170).map (·.size) = some 2 := by kernel_rfl
theorem sz172 : (Tryz.prog.info? 172).map (·.size) = some 1 := by kernel_rfl
theorem sz173 : (Tryz.prog.info? 173).map (·.size) = some 1 := by kernel_rfl
theorem sz177 : (Tryz.prog.info? 177).map (·.size) = some 3 := by kernel_rfl
theorem sz182 : (Tryz.prog.info? 182).map (·.size) = some 1 := by kernel_rfl
theorem sz186 : (Tryz.prog.info? 186).map (·.size) = some 1 := by kernel_rfl
theorem sz197 : (Tryz.prog.info? 197).map (·.size) = some 2 := by kernel_rfl
theorem sz201 : (Tryz.prog.info? 201).map (·.size) = some 1 := by kernel_rfl
theorem sz204 : (Tryz.prog.info? 204).map (·.size) = some 1 := by kernel_rfl
theorem sz207 : (Tryz.prog.info? 207).map (·.size) = some 1 := by kernel_rfl
theorem sz209 : (Tryz.prog.info? 209).map (·.size) = some 1 := by kernel_rfl
theorem sz212 : (Tryz.prog.info? 212).map (·.size) = some 1 := by kernel_rfl
theorem sz215 : (Tryz.prog.info? 215).map (·.size) = some 1 := by kernel_rfl
theorem sz217 : (Tryz.prog.info? 217).map (·.size) = some 1 := by kernel_rfl
theorem sz219 : (Tryz.prog.info? 219).map (·.size) = some 1 := by kernel_rfl
theorem sz220 : (Tryz.prog.info? 220).map (·.size) = some 3 := by kernel_rfl
theorem sz222 : (Tryz.prog.info? 222).map (·.size) = some 1 := by kernel_rfl
theorem sz225 : (Tryz.prog.info? 225).map (·.size) = some 1 := by kernel_rfl
theorem sz229 : (Tryz.prog.info? 229).map (·.size) = some 1 := by kernel_rfl
theorem sz238 : (Tryz.prog.info? 238).map (·.size) = some 1 := by kernel_rfl
theorem sz239 : (Tryz.prog.info? 239).map (·.size) = some 1 := by kernel_rfl
theorem sz240 : (Tryz.prog.info? 240).map (·.size) = some 1 := by kernel_rfl
theorem sz242 : (Tryz.prog.info? 242).map (·.size) = some 1 := by kernel_rfl
theorem sz245 : (Tryz.prog.info? 245).map (·.size) = some 1 := by kernel_rfl
theorem sz253 : (Tryz.prog.info? 253).map (·.size) = some 2 := by kernel_rfl
theorem sz255 : (Tryz.prog.info? 255).map (·.size) = some 1 := by kernel_rfl
theorem sz257 : (Tryz.prog.info? 257).map (·.size) = some 3 := by kernel_rfl
theorem sz270 : (Tryz.prog.info? 270).map (·.size) = some 1 := by kernel_rfl
theorem sz272 : (Tryz.prog.info? 272).map (·.size) = some 1 := by kernel_rfl
theorem sz278 : (Tryz.prog.info? 278).map (·.size) = some 1 := by kernel_rfl
theorem sz282 : (Tryz.prog.info? 282).map (·.size) = some 1 := by kernel_rfl
theorem sz284 : (Tryz.prog.info? 284).map (·.size) = some 24 := by kernel_rfl
theorem sz294 : (Tryz.prog.info? 294).map (·.size) = some 20 := by kernel_rfl
theorem sz295 : (Tryz.prog.info? 295).map (·.size) = some 65 := by kernel_rfl
theorem sz296 : (Tryz.prog.info? 296).map (·.size) = some 256 := by kernel_rfl
theorem sz298 : (Tryz.prog.info? 298).map (·.size) = some 2 := by kernel_rfl
theorem sz299 : (Tryz.prog.info? 299).map (·.size) = some 32 := by kernel_rfl
theorem sz302 : (Tryz.prog.info? 302).map (·.size) = some 32 := by kernel_rfl
theorem sz303 : (Tryz.prog.info? 303).map (·.size) = some 64 := by kernel_rfl
theorem slt22 : Slt Tryz.prog 22 148 1 := ⟨Tryz.underlying22, by kernel_rfl⟩
theorem slt23 : Slt Tryz.prog 23 99 3 := ⟨Tryz.underlying23, by kernel_rfl⟩
theorem slt33 : Slt Tryz.prog 33 56 1 := ⟨Tryz.underlying33, by kernel_rfl⟩
theorem slt45 : Slt Tryz.prog 45 67 4 := ⟨Tryz.underlying45, by kernel_rfl⟩
theorem slt56 : Slt Tryz.prog 56 3 1 := ⟨Tryz.underlying56, by kernel_rfl⟩
theorem slt59 : Slt Tryz.prog 59 65 2 := ⟨Tryz.underlying59, by kernel_rfl⟩
theorem slt74 : Slt Tryz.prog 74 164 2 := ⟨Tryz.underlying74, by kernel_rfl⟩
theorem slt87 : Slt Tryz.prog 87 103 3 := ⟨Tryz.underlying87, by kernel_rfl⟩
theorem slt114 : Slt Tryz.prog 114 5 1 := ⟨Tryz.underlying114, by kernel_rfl⟩
theorem slt128 : Slt Tryz.prog 128 135 1 := ⟨Tryz.underlying128, by kernel_rfl⟩
theorem slt134 : Slt Tryz.prog 134 140 3 := ⟨Tryz.underlying134, by kernel_rfl⟩
theorem slt135 : Slt Tryz.prog 135 137 3 := ⟨Tryz.underlying135, by kernel_rfl⟩
theorem slt151 : Slt Tryz.prog 151 155 2 := ⟨Tryz.underlying151, by kernel_rfl⟩
theorem slt172 : Slt Tryz.prog 172 80 3 := ⟨Tryz.underlying172, by kernel_rfl⟩
theorem slt173 : Slt Tryz.prog 173 177 3 := ⟨Tryz.underlying173, by kernel_rfl⟩
theorem slt186 : Slt Tryz.prog 186 9 1 := ⟨Tryz.underlying186, by kernel_rfl⟩
theorem slt207 : Slt Tryz.prog 207 167 2 := ⟨Tryz.underlying207, by kernel_rfl⟩
theorem slt222 : Slt Tryz.prog 222 225 1 := ⟨Tryz.underlying222, by kernel_rfl⟩
theorem fld25_0 : Fld Tryz.prog 25 0 0 := fun _ _ => by kernel_rfl
theorem fld25_1 : Fld Tryz.prog 25 1 1 := fun _ _ => by kernel_rfl
theorem fld25_2 : Fld Tryz.prog 25 2 2 := fun _ _ => by kernel_rfl
theorem fld25_3 : Fld Tryz.prog 25 3 3 := fun _ _ => by kernel_rfl
theorem fld35_0 : Fld Tryz.prog 35 0 0 := fun _ _ => by kernel_rfl
theorem fld35_1 : Fld Tryz.prog 35 1 1 := fun _ _ => by kernel_rfl
theorem fld47_0 : Fld Tryz.prog 47 0 0 := fun _ _ => by kernel_rfl
theorem fld47_1 : Fld Tryz.prog 47 1 1 := fun _ _ => by kernel_rfl
theorem fld49_0 : Fld Tryz.prog 49 0 0 := fun _ _ => by kernel_rfl
theorem fld65_0 : Fld Tryz.prog 65 0 0 := fun _ _ => by kernel_rfl
theorem fld65_1 : Fld Tryz.prog 65 1 1 := fun _ _ => by kernel_rfl
theorem fld67_0 : Fld Tryz.prog 67 0 0 := fun _ _ => by kernel_rfl
theorem fld67_1 : Fld Tryz.prog 67 1 1 := fun _ _ => by kernel_rfl
theorem fld67_2 : Fld Tryz.prog 67 2 3 := fun _ _ => by kernel_rfl
theorem fld80_0 : Fld Tryz.prog 80 0 0 := fun _ _ => by kernel_rfl
theorem fld80_1 : Fld Tryz.prog 80 1 1 := fun _ _ => by kernel_rfl
theorem fld80_2 : Fld Tryz.prog 80 2 2 := fun _ _ => by kernel_rfl
theorem fld99_0 : Fld Tryz.prog 99 0 0 := fun _ _ => by kernel_rfl
theorem fld99_1 : Fld Tryz.prog 99 1 1 := fun _ _ => by kernel_rfl
theorem fld99_2 : Fld Tryz.prog 99 2 2 := fun _ _ => by kernel_rfl
theorem fld103_0 : Fld Tryz.prog 103 0 0 := fun _ _ => by kernel_rfl
theorem fld103_1 : Fld Tryz.prog 103 1 1 := fun _ _ => by kernel_rfl
theorem fld103_2 : Fld Tryz.prog 103 2 2 := fun _ _ => by kernel_rfl
theorem fld130_0 : Fld Tryz.prog 130 0 0 := fun _ _ => by kernel_rfl
theorem fld130_1 : Fld Tryz.prog 130 1 4 := fun _ _ => by kernel_rfl
theorem fld137_0 : Fld Tryz.prog 137 0 0 := fun _ _ => by kernel_rfl
theorem fld137_1 : Fld Tryz.prog 137 1 1 := fun _ _ => by kernel_rfl
theorem fld137_2 : Fld Tryz.prog 137 2 2 := fun _ _ => by kernel_rfl
theorem fld140_0 : Fld Tryz.prog 140 0 0 := fun _ _ => by kernel_rfl
theorem fld140_1 : Fld Tryz.prog 140 1 1 := fun _ _ => by kernel_rfl
theorem fld140_2 : Fld Tryz.prog 140 2 2 := fun _ _ => by kernel_rfl
theorem fld148_0 : Fld Tryz.prog 148 0 0 := fun _ _ => by kernel_rfl
theorem fld155_0 : Fld Tryz.prog 155 0 0 := fun _ _ => by kernel_rfl
theorem fld155_1 : Fld Tryz.prog 155 1 1 := fun _ _ => by kernel_rfl
theorem fld164_0 : Fld Tryz.prog 164 0 0 := fun _ _ => by kernel_rfl
theorem fld164_1 : Fld Tryz.prog 164 1 1 := fun _ _ => by kernel_rfl
theorem fld167_0 : Fld Tryz.prog 167 0 0 := fun _ _ => by kernel_rfl
theorem fld167_1 : Fld Tryz.prog 167 1 1 := fun _ _ => by kernel_rfl
theorem fld170_0 : Fld Tryz.prog 170 0 0 := fun _ _ => by kernel_rfl
theorem fld170_1 : Fld Tryz.prog 170 1 1 := fun _ _ => by kernel_rfl
theorem fld177_0 : Fld Tryz.prog 177 0 0 := fun _ _ => by kernel_rfl
theorem fld177_1 : Fld Tryz.prog 177 1 1 := fun _ _ => by kernel_rfl
theorem fld177_2 : Fld Tryz.prog 177 2 2 := fun _ _ => by kernel_rfl
theorem fld253_0 : Fld Tryz.prog 253 0 0 := fun _ _ => by kernel_rfl
theorem fld253_1 : Fld Tryz.prog 253 1 1 := fun _ _ => by kernel_rfl
theorem fld255_0 : Fld Tryz.prog 255 0 0 := fun _ _ => by kernel_rfl
theorem fld257_0 : Fld Tryz.prog 257 0 0 := fun _ _ => by kernel_rfl
theorem fld257_1 : Fld Tryz.prog 257 1 1 := fun _ _ => by kernel_rfl
theorem fld257_2 : Fld Tryz.prog 257 2 2 := fun _ _ => by kernel_rfl
theorem fld298_0 : Fld Tryz.prog 298 0 0 := fun _ _ => by kernel_rfl
theorem fld298_1 : Fld Tryz.prog 298 1 1 := fun _ _ => by kernel_rfl
end Go.Proofs.NV
