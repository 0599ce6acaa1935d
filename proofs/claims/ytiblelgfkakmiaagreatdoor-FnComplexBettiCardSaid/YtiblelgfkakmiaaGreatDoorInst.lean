/-
  The rows of the program's tables, as instances of the calculus. Conditions: none. Printed by a program.
-/
import Derived.Test.YtiblelgfkakmiaaGreatDoorZa
import Derived.Test.YtiblelgfkakmiaaGreatDoorProg
import Derived.KernelRfl
namespace Go.Proofs.YtiblelgfkakmiaaGreatDoor.Vc
@[reducible] def und1 := @Und.mk Tryz.prog 1 _ Tryz.underlying1
attribute [instance] und1
@[reducible] def und2 := @Und.mk Tryz.prog 2 _ Tryz.underlying2
attribute [instance] und2
instance inf2 : Inf Tryz.prog 2 (.int .i64 (0)) 1 8 := ⟨by kernel_rfl⟩
@[reducible] def und3 := @Und.mk Tryz.prog 3 _ Tryz.underlying3
attribute [instance] und3
instance inf3 : Inf Tryz.prog 3 (.int .i64 (0)) 1 8 := ⟨by kernel_rfl⟩
@[reducible] def und4 := @Und.mk Tryz.prog 4 _ Tryz.underlying4
attribute [instance] und4
instance inf4 : Inf Tryz.prog 4 (.bool false) 1 1 := ⟨by kernel_rfl⟩
@[reducible] def und5 := @Und.mk Tryz.prog 5 _ Tryz.underlying5
attribute [instance] und5
instance inf5 : Inf Tryz.prog 5 (.int .u8 (0)) 1 1 := ⟨by kernel_rfl⟩
@[reducible] def und6 := @Und.mk Tryz.prog 6 _ Tryz.underlying6
attribute [instance] und6
@[reducible] def und7 := @Und.mk Tryz.prog 7 _ Tryz.underlying7
attribute [instance] und7
@[reducible] def und8 := @Und.mk Tryz.prog 8 _ Tryz.underlying8
attribute [instance] und8
@[reducible] def und9 := @Und.mk Tryz.prog 9 _ Tryz.underlying9
attribute [instance] und9
@[reducible] def und10 := @Und.mk Tryz.prog 10 _ Tryz.underlying10
attribute [instance] und10
@[reducible] def und11 := @Und.mk Tryz.prog 11 _ Tryz.underlying11
attribute [instance] und11
@[reducible] def und12 := @Und.mk Tryz.prog 12 _ Tryz.underlying12
attribute [instance] und12
@[reducible] def und13 := @Und.mk Tryz.prog 13 _ Tryz.underlying13
attribute [instance] und13
@[reducible] def und14 := @Und.mk Tryz.prog 14 _ Tryz.underlying14
attribute [instance] und14
@[reducible] def und15 := @Und.mk Tryz.prog 15 _ Tryz.underlying15
attribute [instance] und15
@[reducible] def und16 := @Und.mk Tryz.prog 16 _ Tryz.underlying16
attribute [instance] und16
@[reducible] def und17 := @Und.mk Tryz.prog 17 _ Tryz.underlying17
attribute [instance] und17
@[reducible] def und18 := @Und.mk Tryz.prog 18 _ Tryz.underlying18
attribute [instance] und18
@[reducible] def und19 := @Und.mk Tryz.prog 19 _ Tryz.underlying19
attribute [instance] und19
@[reducible] def und20 := @Und.mk Tryz.prog 20 _ Tryz.underlying20
attribute [instance] und20
@[reducible] def und21 := @Und.mk Tryz.prog 21 _ Tryz.underlying21
attribute [instance] und21
@[reducible] def und22 := @Und.mk Tryz.prog 22 _ Tryz.underlying22
attribute [instance] und22
instance inf22 : Inf Tryz.prog 22 (.slice none 0 0) 1 24 := ⟨by kernel_rfl⟩
@[reducible] def und23 := @Und.mk Tryz.prog 23 _ Tryz.underlying23
attribute [instance] und23
@[reducible] def und24 := @Und.mk Tryz.prog 24 _ Tryz.underlying24
attribute [instance] und24
instance inf24 : Inf Tryz.prog 24 (.slice none 0 0) 1 24 := ⟨by kernel_rfl⟩
@[reducible] def und25 := @Und.mk Tryz.prog 25 _ Tryz.underlying25
attribute [instance] und25
@[reducible] def und26 := @Und.mk Tryz.prog 26 _ Tryz.underlying26
attribute [instance] und26
instance inf26 : Inf Tryz.prog 26 (.agg #[.int .i64 (0), .slice none 0 0]) 2 32 := ⟨by kernel_rfl⟩
@[reducible] def und27 := @Und.mk Tryz.prog 27 _ Tryz.underlying27
attribute [instance] und27
@[reducible] def und28 := @Und.mk Tryz.prog 28 _ Tryz.underlying28
attribute [instance] und28
instance inf28 : Inf Tryz.prog 28 (.slice none 0 0) 1 24 := ⟨by kernel_rfl⟩
@[reducible] def und30 := @Und.mk Tryz.prog 30 _ Tryz.underlying30
attribute [instance] und30
@[reducible] def und31 := @Und.mk Tryz.prog 31 _ Tryz.underlying31
attribute [instance] und31
@[reducible] def und33 := @Und.mk Tryz.prog 33 _ Tryz.underlying33
attribute [instance] und33
@[reducible] def und35 := @Und.mk Tryz.prog 35 _ Tryz.underlying35
attribute [instance] und35
@[reducible] def und36 := @Und.mk Tryz.prog 36 _ Tryz.underlying36
attribute [instance] und36
@[reducible] def und37 := @Und.mk Tryz.prog 37 _ Tryz.underlying37
attribute [instance] und37
@[reducible] def und38 := @Und.mk Tryz.prog 38 _ Tryz.underlying38
attribute [instance] und38
@[reducible] def und40 := @Und.mk Tryz.prog 40 _ Tryz.underlying40
attribute [instance] und40
@[reducible] def und41 := @Und.mk Tryz.prog 41 _ Tryz.underlying41
attribute [instance] und41
@[reducible] def und42 := @Und.mk Tryz.prog 42 _ Tryz.underlying42
attribute [instance] und42
@[reducible] def und43 := @Und.mk Tryz.prog 43 _ Tryz.underlying43
attribute [instance] und43
instance inf43 : Inf Tryz.prog 43 (.int .u64 (0)) 1 8 := ⟨by kernel_rfl⟩
@[reducible] def und44 := @Und.mk Tryz.prog 44 _ Tryz.underlying44
attribute [instance] und44
@[reducible] def und45 := @Und.mk Tryz.prog 45 _ Tryz.underlying45
attribute [instance] und45
@[reducible] def und46 := @Und.mk Tryz.prog 46 _ Tryz.underlying46
attribute [instance] und46
@[reducible] def und47 := @Und.mk Tryz.prog 47 _ Tryz.underlying47
attribute [instance] und47
@[reducible] def und48 := @Und.mk Tryz.prog 48 _ Tryz.underlying48
attribute [instance] und48
@[reducible] def und49 := @Und.mk Tryz.prog 49 _ Tryz.underlying49
attribute [instance] und49
@[reducible] def und50 := @Und.mk Tryz.prog 50 _ Tryz.underlying50
attribute [instance] und50
@[reducible] def und51 := @Und.mk Tryz.prog 51 _ Tryz.underlying51
attribute [instance] und51
@[reducible] def und52 := @Und.mk Tryz.prog 52 _ Tryz.underlying52
attribute [instance] und52
@[reducible] def und53 := @Und.mk Tryz.prog 53 _ Tryz.underlying53
attribute [instance] und53
@[reducible] def und54 := @Und.mk Tryz.prog 54 _ Tryz.underlying54
attribute [instance] und54
@[reducible] def und55 := @Und.mk Tryz.prog 55 _ Tryz.underlying55
attribute [instance] und55
instance inf55 : Inf Tryz.prog 55 (.pointer none) 1 8 := ⟨by kernel_rfl⟩
@[reducible] def und56 := @Und.mk Tryz.prog 56 _ Tryz.underlying56
attribute [instance] und56
@[reducible] def und57 := @Und.mk Tryz.prog 57 _ Tryz.underlying57
attribute [instance] und57
instance inf57 : Inf Tryz.prog 57 (.agg #[.slice none 0 0, .slice none 0 0]) 2 48 := ⟨by kernel_rfl⟩
@[reducible] def und58 := @Und.mk Tryz.prog 58 _ Tryz.underlying58
attribute [instance] und58
@[reducible] def und60 := @Und.mk Tryz.prog 60 _ Tryz.underlying60
attribute [instance] und60
@[reducible] def und61 := @Und.mk Tryz.prog 61 _ Tryz.underlying61
attribute [instance] und61
@[reducible] def und62 := @Und.mk Tryz.prog 62 _ Tryz.underlying62
attribute [instance] und62
@[reducible] def und63 := @Und.mk Tryz.prog 63 _ Tryz.underlying63
attribute [instance] und63
@[reducible] def und64 := @Und.mk Tryz.prog 64 _ Tryz.underlying64
attribute [instance] und64
@[reducible] def und65 := @Und.mk Tryz.prog 65 _ Tryz.underlying65
attribute [instance] und65
@[reducible] def und66 := @Und.mk Tryz.prog 66 _ Tryz.underlying66
attribute [instance] und66
@[reducible] def und67 := @Und.mk Tryz.prog 67 _ Tryz.underlying67
attribute [instance] und67
@[reducible] def und68 := @Und.mk Tryz.prog 68 _ Tryz.underlying68
attribute [instance] und68
@[reducible] def und69 := @Und.mk Tryz.prog 69 _ Tryz.underlying69
attribute [instance] und69
@[reducible] def und70 := @Und.mk Tryz.prog 70 _ Tryz.underlying70
attribute [instance] und70
@[reducible] def und71 := @Und.mk Tryz.prog 71 _ Tryz.underlying71
attribute [instance] und71
@[reducible] def und72 := @Und.mk Tryz.prog 72 _ Tryz.underlying72
attribute [instance] und72
@[reducible] def und73 := @Und.mk Tryz.prog 73 _ Tryz.underlying73
attribute [instance] und73
@[reducible] def und74 := @Und.mk Tryz.prog 74 _ Tryz.underlying74
attribute [instance] und74
@[reducible] def und75 := @Und.mk Tryz.prog 75 _ Tryz.underlying75
attribute [instance] und75
@[reducible] def und76 := @Und.mk Tryz.prog 76 _ Tryz.underlying76
attribute [instance] und76
@[reducible] def und77 := @Und.mk Tryz.prog 77 _ Tryz.underlying77
attribute [instance] und77
@[reducible] def und78 := @Und.mk Tryz.prog 78 _ Tryz.underlying78
attribute [instance] und78
@[reducible] def und79 := @Und.mk Tryz.prog 79 _ Tryz.underlying79
attribute [instance] und79
@[reducible] def und80 := @Und.mk Tryz.prog 80 _ Tryz.underlying80
attribute [instance] und80
@[reducible] def und81 := @Und.mk Tryz.prog 81 _ Tryz.underlying81
attribute [instance] und81
@[reducible] def und82 := @Und.mk Tryz.prog 82 _ Tryz.underlying82
attribute [instance] und82
@[reducible] def und83 := @Und.mk Tryz.prog 83 _ Tryz.underlying83
attribute [instance] und83
@[reducible] def und84 := @Und.mk Tryz.prog 84 _ Tryz.underlying84
attribute [instance] und84
@[reducible] def und85 := @Und.mk Tryz.prog 85 _ Tryz.underlying85
attribute [instance] und85
@[reducible] def und86 := @Und.mk Tryz.prog 86 _ Tryz.underlying86
attribute [instance] und86
@[reducible] def und87 := @Und.mk Tryz.prog 87 _ Tryz.underlying87
attribute [instance] und87
@[reducible] def und88 := @Und.mk Tryz.prog 88 _ Tryz.underlying88
attribute [instance] und88
@[reducible] def und89 := @Und.mk Tryz.prog 89 _ Tryz.underlying89
attribute [instance] und89
@[reducible] def und91 := @Und.mk Tryz.prog 91 _ Tryz.underlying91
attribute [instance] und91
@[reducible] def und92 := @Und.mk Tryz.prog 92 _ Tryz.underlying92
attribute [instance] und92
@[reducible] def und93 := @Und.mk Tryz.prog 93 _ Tryz.underlying93
attribute [instance] und93
@[reducible] def und94 := @Und.mk Tryz.prog 94 _ Tryz.underlying94
attribute [instance] und94
@[reducible] def und95 := @Und.mk Tryz.prog 95 _ Tryz.underlying95
attribute [instance] und95
@[reducible] def und96 := @Und.mk Tryz.prog 96 _ Tryz.underlying96
attribute [instance] und96
@[reducible] def und97 := @Und.mk Tryz.prog 97 _ Tryz.underlying97
attribute [instance] und97
@[reducible] def und98 := @Und.mk Tryz.prog 98 _ Tryz.underlying98
attribute [instance] und98
@[reducible] def und99 := @Und.mk Tryz.prog 99 _ Tryz.underlying99
attribute [instance] und99
@[reducible] def und100 := @Und.mk Tryz.prog 100 _ Tryz.underlying100
attribute [instance] und100
@[reducible] def und101 := @Und.mk Tryz.prog 101 _ Tryz.underlying101
attribute [instance] und101
@[reducible] def und102 := @Und.mk Tryz.prog 102 _ Tryz.underlying102
attribute [instance] und102
@[reducible] def und103 := @Und.mk Tryz.prog 103 _ Tryz.underlying103
attribute [instance] und103
@[reducible] def und104 := @Und.mk Tryz.prog 104 _ Tryz.underlying104
attribute [instance] und104
instance inf104 : Inf Tryz.prog 104 (.agg #[.slice none 0 0, .int .i64 (0), .int .u64 (0)]) 3 40 := ⟨by kernel_rfl⟩
@[reducible] def und105 := @Und.mk Tryz.prog 105 _ Tryz.underlying105
attribute [instance] und105
@[reducible] def und106 := @Und.mk Tryz.prog 106 _ Tryz.underlying106
attribute [instance] und106
@[reducible] def und107 := @Und.mk Tryz.prog 107 _ Tryz.underlying107
attribute [instance] und107
@[reducible] def und108 := @Und.mk Tryz.prog 108 _ Tryz.underlying108
attribute [instance] und108
@[reducible] def und109 := @Und.mk Tryz.prog 109 _ Tryz.underlying109
attribute [instance] und109
@[reducible] def und110 := @Und.mk Tryz.prog 110 _ Tryz.underlying110
attribute [instance] und110
@[reducible] def und111 := @Und.mk Tryz.prog 111 _ Tryz.underlying111
attribute [instance] und111
instance inf111 : Inf Tryz.prog 111 (.agg #[.slice none 0 0, .slice none 0 0]) 2 48 := ⟨by kernel_rfl⟩
@[reducible] def und112 := @Und.mk Tryz.prog 112 _ Tryz.underlying112
attribute [instance] und112
@[reducible] def und113 := @Und.mk Tryz.prog 113 _ Tryz.underlying113
attribute [instance] und113
@[reducible] def und114 := @Und.mk Tryz.prog 114 _ Tryz.underlying114
attribute [instance] und114
@[reducible] def und115 := @Und.mk Tryz.prog 115 _ Tryz.underlying115
attribute [instance] und115
@[reducible] def und116 := @Und.mk Tryz.prog 116 _ Tryz.underlying116
attribute [instance] und116
@[reducible] def und117 := @Und.mk Tryz.prog 117 _ Tryz.underlying117
attribute [instance] und117
@[reducible] def und118 := @Und.mk Tryz.prog 118 _ Tryz.underlying118
attribute [instance] und118
@[reducible] def und119 := @Und.mk Tryz.prog 119 _ Tryz.underlying119
attribute [instance] und119
@[reducible] def und120 := @Und.mk Tryz.prog 120 _ Tryz.underlying120
attribute [instance] und120
@[reducible] def und121 := @Und.mk Tryz.prog 121 _ Tryz.underlying121
attribute [instance] und121
@[reducible] def und122 := @Und.mk Tryz.prog 122 _ Tryz.underlying122
attribute [instance] und122
@[reducible] def und124 := @Und.mk Tryz.prog 124 _ Tryz.underlying124
attribute [instance] und124
@[reducible] def und125 := @Und.mk Tryz.prog 125 _ Tryz.underlying125
attribute [instance] und125
@[reducible] def und126 := @Und.mk Tryz.prog 126 _ Tryz.underlying126
attribute [instance] und126
@[reducible] def und128 := @Und.mk Tryz.prog 128 _ Tryz.underlying128
attribute [instance] und128
@[reducible] def und129 := @Und.mk Tryz.prog 129 _ Tryz.underlying129
attribute [instance] und129
@[reducible] def und130 := @Und.mk Tryz.prog 130 _ Tryz.underlying130
attribute [instance] und130
@[reducible] def und131 := @Und.mk Tryz.prog 131 _ Tryz.underlying131
attribute [instance] und131
@[reducible] def und132 := @Und.mk Tryz.prog 132 _ Tryz.underlying132
attribute [instance] und132
@[reducible] def und133 := @Und.mk Tryz.prog 133 _ Tryz.underlying133
attribute [instance] und133
@[reducible] def und134 := @Und.mk Tryz.prog 134 _ Tryz.underlying134
attribute [instance] und134
@[reducible] def und135 := @Und.mk Tryz.prog 135 _ Tryz.underlying135
attribute [instance] und135
@[reducible] def und136 := @Und.mk Tryz.prog 136 _ Tryz.underlying136
attribute [instance] und136
@[reducible] def und137 := @Und.mk Tryz.prog 137 _ Tryz.underlying137
attribute [instance] und137
@[reducible] def und138 := @Und.mk Tryz.prog 138 _ Tryz.underlying138
attribute [instance] und138
@[reducible] def und139 := @Und.mk Tryz.prog 139 _ Tryz.underlying139
attribute [instance] und139
@[reducible] def und140 := @Und.mk Tryz.prog 140 _ Tryz.underlying140
attribute [instance] und140
@[reducible] def und141 := @Und.mk Tryz.prog 141 _ Tryz.underlying141
attribute [instance] und141
@[reducible] def und142 := @Und.mk Tryz.prog 142 _ Tryz.underlying142
attribute [instance] und142
@[reducible] def und143 := @Und.mk Tryz.prog 143 _ Tryz.underlying143
attribute [instance] und143
@[reducible] def und144 := @Und.mk Tryz.prog 144 _ Tryz.underlying144
attribute [instance] und144
@[reducible] def und145 := @Und.mk Tryz.prog 145 _ Tryz.underlying145
attribute [instance] und145
@[reducible] def und146 := @Und.mk Tryz.prog 146 _ Tryz.underlying146
attribute [instance] und146
@[reducible] def und147 := @Und.mk Tryz.prog 147 _ Tryz.underlying147
attribute [instance] und147
@[reducible] def und148 := @Und.mk Tryz.prog 148 _ Tryz.underlying148
attribute [instance] und148
@[reducible] def und149 := @Und.mk Tryz.prog 149 _ Tryz.underlying149
attribute [instance] und149
@[reducible] def und150 := @Und.mk Tryz.prog 150 _ Tryz.underlying150
attribute [instance] und150
@[reducible] def und151 := @Und.mk Tryz.prog 151 _ Tryz.underlying151
attribute [instance] und151
@[reducible] def und152 := @Und.mk Tryz.prog 152 _ Tryz.underlying152
attribute [instance] und152
@[reducible] def und154 := @Und.mk Tryz.prog 154 _ Tryz.underlying154
attribute [instance] und154
@[reducible] def und155 := @Und.mk Tryz.prog 155 _ Tryz.underlying155
attribute [instance] und155
@[reducible] def und157 := @Und.mk Tryz.prog 157 _ Tryz.underlying157
attribute [instance] und157
@[reducible] def und158 := @Und.mk Tryz.prog 158 _ Tryz.underlying158
attribute [instance] und158
@[reducible] def und159 := @Und.mk Tryz.prog 159 _ Tryz.underlying159
attribute [instance] und159
@[reducible] def und160 := @Und.mk Tryz.prog 160 _ Tryz.underlying160
attribute [instance] und160
@[reducible] def und161 := @Und.mk Tryz.prog 161 _ Tryz.underlying161
attribute [instance] und161
@[reducible] def und162 := @Und.mk Tryz.prog 162 _ Tryz.underlying162
attribute [instance] und162
@[reducible] def und163 := @Und.mk Tryz.prog 163 _ Tryz.underlying163
attribute [instance] und163
@[reducible] def und164 := @Und.mk Tryz.prog 164 _ Tryz.underlying164
attribute [instance] und164
@[reducible] def und165 := @Und.mk Tryz.prog 165 _ Tryz.underlying165
attribute [instance] und165
@[reducible] def und166 := @Und.mk Tryz.prog 166 _ Tryz.underlying166
attribute [instance] und166
@[reducible] def und167 := @Und.mk Tryz.prog 167 _ Tryz.underlying167
attribute [instance] und167
@[reducible] def und168 := @Und.mk Tryz.prog 168 _ Tryz.underlying168
attribute [instance] und168
@[reducible] def und169 := @Und.mk Tryz.prog 169 _ Tryz.underlying169
attribute [instance] und169
@[reducible] def und170 := @Und.mk Tryz.prog 170 _ Tryz.underlying170
attribute [instance] und170
@[reducible] def und171 := @Und.mk Tryz.prog 171 _ Tryz.underlying171
attribute [instance] und171
@[reducible] def und172 := @Und.mk Tryz.prog 172 _ Tryz.underlying172
attribute [instance] und172
@[reducible] def und173 := @Und.mk Tryz.prog 173 _ Tryz.underlying173
attribute [instance] und173
@[reducible] def und174 := @Und.mk Tryz.prog 174 _ Tryz.underlying174
attribute [instance] und174
@[reducible] def und175 := @Und.mk Tryz.prog 175 _ Tryz.underlying175
attribute [instance] und175
@[reducible] def und176 := @Und.mk Tryz.prog 176 _ Tryz.underlying176
attribute [instance] und176
@[reducible] def und177 := @Und.mk Tryz.prog 177 _ Tryz.underlying177
attribute [instance] und177
@[reducible] def und178 := @Und.mk Tryz.prog 178 _ Tryz.underlying178
attribute [instance] und178
@[reducible] def und179 := @Und.mk Tryz.prog 179 _ Tryz.underlying179
attribute [instance] und179
@[reducible] def und180 := @Und.mk Tryz.prog 180 _ Tryz.underlying180
attribute [instance] und180
@[reducible] def und181 := @Und.mk Tryz.prog 181 _ Tryz.underlying181
attribute [instance] und181
instance fnc5 : Fnc Tryz.prog 5 := ⟨_, Tryz.func5, by kernel_rfl, rfl⟩
instance fnc6 : Fnc Tryz.prog 6 := ⟨_, Tryz.func6, by kernel_rfl, rfl⟩
instance fnc7 : Fnc Tryz.prog 7 := ⟨_, Tryz.func7, by kernel_rfl, rfl⟩
instance fnc8 : Fnc Tryz.prog 8 := ⟨_, Tryz.func8, by kernel_rfl, rfl⟩
instance fnc9 : Fnc Tryz.prog 9 := ⟨_, Tryz.func9, by kernel_rfl, rfl⟩
instance fnc10 : Fnc Tryz.prog 10 := ⟨_, Tryz.func10, by kernel_rfl, rfl⟩
instance fnc11 : Fnc Tryz.prog 11 := ⟨_, Tryz.func11, by kernel_rfl, rfl⟩
instance fnc12 : Fnc Tryz.prog 12 := ⟨_, Tryz.func12, by kernel_rfl, rfl⟩
instance fnc13 : Fnc Tryz.prog 13 := ⟨_, Tryz.func13, by kernel_rfl, rfl⟩
instance fnc14 : Fnc Tryz.prog 14 := ⟨_, Tryz.func14, by kernel_rfl, rfl⟩
instance fnc15 : Fnc Tryz.prog 15 := ⟨_, Tryz.func15, by kernel_rfl, rfl⟩
instance fnc16 : Fnc Tryz.prog 16 := ⟨_, Tryz.func16, by kernel_rfl, rfl⟩
instance fnc17 : Fnc Tryz.prog 17 := ⟨_, Tryz.func17, by kernel_rfl, rfl⟩
instance fnc27 : Fnc Tryz.prog 27 := ⟨_, Tryz.func27, by kernel_rfl, rfl⟩
instance fnc28 : Fnc Tryz.prog 28 := ⟨_, Tryz.func28, by kernel_rfl, rfl⟩
instance fnc29 : Fnc Tryz.prog 29 := ⟨_, Tryz.func29, by kernel_rfl, rfl⟩
instance fnc30 : Fnc Tryz.prog 30 := ⟨_, Tryz.func30, by kernel_rfl, rfl⟩
instance fnc31 : Fnc Tryz.prog 31 := ⟨_, Tryz.func31, by kernel_rfl, rfl⟩
instance fnc32 : Fnc Tryz.prog 32 := ⟨_, Tryz.func32, by kernel_rfl, rfl⟩
instance fnc33 : Fnc Tryz.prog 33 := ⟨_, Tryz.func33, by kernel_rfl, rfl⟩
instance fnc34 : Fnc Tryz.prog 34 := ⟨_, Tryz.func34, by kernel_rfl, rfl⟩
instance fnc35 : Fnc Tryz.prog 35 := ⟨_, Tryz.func35, by kernel_rfl, rfl⟩
instance fnc36 : Fnc Tryz.prog 36 := ⟨_, Tryz.func36, by kernel_rfl, rfl⟩
instance fnc37 : Fnc Tryz.prog 37 := ⟨_, Tryz.func37, by kernel_rfl, rfl⟩
instance fnc38 : Fnc Tryz.prog 38 := ⟨_, Tryz.func38, by kernel_rfl, rfl⟩
instance fnc39 : Fnc Tryz.prog 39 := ⟨_, Tryz.func39, by kernel_rfl, rfl⟩
instance fnc40 : Fnc Tryz.prog 40 := ⟨_, Tryz.func40, by kernel_rfl, rfl⟩
instance fnc41 : Fnc Tryz.prog 41 := ⟨_, Tryz.func41, by kernel_rfl, rfl⟩
instance fnc42 : Fnc Tryz.prog 42 := ⟨_, Tryz.func42, by kernel_rfl, rfl⟩
instance fnc43 : Fnc Tryz.prog 43 := ⟨_, Tryz.func43, by kernel_rfl, rfl⟩
instance fnc44 : Fnc Tryz.prog 44 := ⟨_, Tryz.func44, by kernel_rfl, rfl⟩
instance fnc45 : Fnc Tryz.prog 45 := ⟨_, Tryz.func45, by kernel_rfl, rfl⟩
instance fnc56 : Fnc Tryz.prog 56 := ⟨_, Tryz.func56, by kernel_rfl, rfl⟩
instance fnc57 : Fnc Tryz.prog 57 := ⟨_, Tryz.func57, by kernel_rfl, rfl⟩
instance fnc58 : Fnc Tryz.prog 58 := ⟨_, Tryz.func58, by kernel_rfl, rfl⟩
instance fnc59 : Fnc Tryz.prog 59 := ⟨_, Tryz.func59, by kernel_rfl, rfl⟩
instance fnc60 : Fnc Tryz.prog 60 := ⟨_, Tryz.func60, by kernel_rfl, rfl⟩
instance fnc61 : Fnc Tryz.prog 61 := ⟨_, Tryz.func61, by kernel_rfl, rfl⟩
instance fnc62 : Fnc Tryz.prog 62 := ⟨_, Tryz.func62, by kernel_rfl, rfl⟩
instance fnc63 : Fnc Tryz.prog 63 := ⟨_, Tryz.func63, by kernel_rfl, rfl⟩
instance fnc64 : Fnc Tryz.prog 64 := ⟨_, Tryz.func64, by kernel_rfl, rfl⟩
instance fnc65 : Fnc Tryz.prog 65 := ⟨_, Tryz.func65, by kernel_rfl, rfl⟩
instance fnc66 : Fnc Tryz.prog 66 := ⟨_, Tryz.func66, by kernel_rfl, rfl⟩
instance fnc67 : Fnc Tryz.prog 67 := ⟨_, Tryz.func67, by kernel_rfl, rfl⟩
instance fnc68 : Fnc Tryz.prog 68 := ⟨_, Tryz.func68, by kernel_rfl, rfl⟩
instance fnc69 : Fnc Tryz.prog 69 := ⟨_, Tryz.func69, by kernel_rfl, rfl⟩
instance fnc70 : Fnc Tryz.prog 70 := ⟨_, Tryz.func70, by kernel_rfl, rfl⟩
instance fnc71 : Fnc Tryz.prog 71 := ⟨_, Tryz.func71, by kernel_rfl, rfl⟩
instance fnc72 : Fnc Tryz.prog 72 := ⟨_, Tryz.func72, by kernel_rfl, rfl⟩
instance fnc73 : Fnc Tryz.prog 73 := ⟨_, Tryz.func73, by kernel_rfl, rfl⟩
instance fnc74 : Fnc Tryz.prog 74 := ⟨_, Tryz.func74, by kernel_rfl, rfl⟩
instance fnc75 : Fnc Tryz.prog 75 := ⟨_, Tryz.func75, by kernel_rfl, rfl⟩
instance fnc76 : Fnc Tryz.prog 76 := ⟨_, Tryz.func76, by kernel_rfl, rfl⟩
instance fnc77 : Fnc Tryz.prog 77 := ⟨_, Tryz.func77, by kernel_rfl, rfl⟩
instance fnc78 : Fnc Tryz.prog 78 := ⟨_, Tryz.func78, by kernel_rfl, rfl⟩
instance fnc79 : Fnc Tryz.prog 79 := ⟨_, Tryz.func79, by kernel_rfl, rfl⟩
instance fnc80 : Fnc Tryz.prog 80 := ⟨_, Tryz.func80, by kernel_rfl, rfl⟩
instance fnc81 : Fnc Tryz.prog 81 := ⟨_, Tryz.func81, by kernel_rfl, rfl⟩
instance fnc82 : Fnc Tryz.prog 82 := ⟨_, Tryz.func82, by kernel_rfl, rfl⟩
instance fnc83 : Fnc Tryz.prog 83 := ⟨_, Tryz.func83, by kernel_rfl, rfl⟩
instance fnc84 : Fnc Tryz.prog 84 := ⟨_, Tryz.func84, by kernel_rfl, rfl⟩
instance fnc85 : Fnc Tryz.prog 85 := ⟨_, Tryz.func85, by kernel_rfl, rfl⟩
instance fnc86 : Fnc Tryz.prog 86 := ⟨_, Tryz.func86, by kernel_rfl, rfl⟩
instance fnc88 : Fnc Tryz.prog 88 := ⟨_, Tryz.func88, by kernel_rfl, rfl⟩
instance fnc91 : Fnc Tryz.prog 91 := ⟨_, Tryz.func91, by kernel_rfl, rfl⟩
instance fnc96 : Fnc Tryz.prog 96 := ⟨_, Tryz.func96, by kernel_rfl, rfl⟩
instance fnc97 : Fnc Tryz.prog 97 := ⟨_, Tryz.func97, by kernel_rfl, rfl⟩
instance fnc98 : Fnc Tryz.prog 98 := ⟨_, Tryz.func98, by kernel_rfl, rfl⟩
instance fnc99 : Fnc Tryz.prog 99 := ⟨_, Tryz.func99, by kernel_rfl, rfl⟩
instance fnc100 : Fnc Tryz.prog 100 := ⟨_, Tryz.func100, by kernel_rfl, rfl⟩
instance fnc101 : Fnc Tryz.prog 101 := ⟨_, Tryz.func101, by kernel_rfl, rfl⟩
instance fnc102 : Fnc Tryz.prog 102 := ⟨_, Tryz.func102, by kernel_rfl, rfl⟩
instance fnc103 : Fnc Tryz.prog 103 := ⟨_, Tryz.func103, by kernel_rfl, rfl⟩
instance fnc104 : Fnc Tryz.prog 104 := ⟨_, Tryz.func104, by kernel_rfl, rfl⟩
instance fnc105 : Fnc Tryz.prog 105 := ⟨_, Tryz.func105, by kernel_rfl, rfl⟩
instance fnc106 : Fnc Tryz.prog 106 := ⟨_, Tryz.func106, by kernel_rfl, rfl⟩
instance fnc107 : Fnc Tryz.prog 107 := ⟨_, Tryz.func107, by kernel_rfl, rfl⟩
instance fnc108 : Fnc Tryz.prog 108 := ⟨_, Tryz.func108, by kernel_rfl, rfl⟩
instance fnc109 : Fnc Tryz.prog 109 := ⟨_, Tryz.func109, by kernel_rfl, rfl⟩
instance fnc110 : Fnc Tryz.prog 110 := ⟨_, Tryz.func110, by kernel_rfl, rfl⟩
instance fnc111 : Fnc Tryz.prog 111 := ⟨_, Tryz.func111, by kernel_rfl, rfl⟩
instance fnc114 : Fnc Tryz.prog 114 := ⟨_, Tryz.func114, by kernel_rfl, rfl⟩
instance fnc116 : Fnc Tryz.prog 116 := ⟨_, Tryz.func116, by kernel_rfl, rfl⟩
instance fnc117 : Fnc Tryz.prog 117 := ⟨_, Tryz.func117, by kernel_rfl, rfl⟩
instance fnc118 : Fnc Tryz.prog 118 := ⟨_, Tryz.func118, by kernel_rfl, rfl⟩
instance fnc120 : Fnc Tryz.prog 120 := ⟨_, Tryz.func120, by kernel_rfl, rfl⟩
instance fnc121 : Fnc Tryz.prog 121 := ⟨_, Tryz.func121, by kernel_rfl, rfl⟩
instance fnc122 : Fnc Tryz.prog 122 := ⟨_, Tryz.func122, by kernel_rfl, rfl⟩
instance fnc124 : Fnc Tryz.prog 124 := ⟨_, Tryz.func124, by kernel_rfl, rfl⟩
instance fnc136 : Fnc Tryz.prog 136 := ⟨_, Tryz.func136, by kernel_rfl, rfl⟩
instance fnc137 : Fnc Tryz.prog 137 := ⟨_, Tryz.func137, by kernel_rfl, rfl⟩
instance fnc145 : Fnc Tryz.prog 145 := ⟨_, Tryz.func145, by kernel_rfl, rfl⟩
instance fnc152 : Fnc Tryz.prog 152 := ⟨_, Tryz.func152, by kernel_rfl, rfl⟩
instance fnc161 : Fnc Tryz.prog 161 := ⟨_, Tryz.func161, by kernel_rfl, rfl⟩
end Go.Proofs.YtiblelgfkakmiaaGreatDoor.Vc
