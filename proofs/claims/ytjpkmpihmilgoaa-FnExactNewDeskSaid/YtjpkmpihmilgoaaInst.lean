/-
  The rows of the program's tables, as instances of the calculus. Conditions: none. Printed by a program.
-/
import Derived.Test.YtjpkmpihmilgoaaZa
import Derived.Test.YtjpkmpihmilgoaaProg
import Derived.KernelRfl
namespace Go.Proofs.Ytjpkmpihmilgoaa.Vc
@[reducible] def und1 := @Und.mk Try.prog 1 _ Try.underlying1
attribute [instance] und1
@[reducible] def und2 := @Und.mk Try.prog 2 _ Try.underlying2
attribute [instance] und2
instance inf2 : Inf Try.prog 2 (.int .i64 (0)) 1 8 := ⟨by kernel_rfl⟩
@[reducible] def und3 := @Und.mk Try.prog 3 _ Try.underlying3
attribute [instance] und3
@[reducible] def und4 := @Und.mk Try.prog 4 _ Try.underlying4
attribute [instance] und4
instance inf4 : Inf Try.prog 4 (.bool false) 1 1 := ⟨by kernel_rfl⟩
@[reducible] def und5 := @Und.mk Try.prog 5 _ Try.underlying5
attribute [instance] und5
@[reducible] def und6 := @Und.mk Try.prog 6 _ Try.underlying6
attribute [instance] und6
@[reducible] def und7 := @Und.mk Try.prog 7 _ Try.underlying7
attribute [instance] und7
@[reducible] def und8 := @Und.mk Try.prog 8 _ Try.underlying8
attribute [instance] und8
@[reducible] def und9 := @Und.mk Try.prog 9 _ Try.underlying9
attribute [instance] und9
@[reducible] def und10 := @Und.mk Try.prog 10 _ Try.underlying10
attribute [instance] und10
@[reducible] def und11 := @Und.mk Try.prog 11 _ Try.underlying11
attribute [instance] und11
@[reducible] def und12 := @Und.mk Try.prog 12 _ Try.underlying12
attribute [instance] und12
@[reducible] def und13 := @Und.mk Try.prog 13 _ Try.underlying13
attribute [instance] und13
@[reducible] def und14 := @Und.mk Try.prog 14 _ Try.underlying14
attribute [instance] und14
@[reducible] def und15 := @Und.mk Try.prog 15 _ Try.underlying15
attribute [instance] und15
@[reducible] def und16 := @Und.mk Try.prog 16 _ Try.underlying16
attribute [instance] und16
@[reducible] def und17 := @Und.mk Try.prog 17 _ Try.underlying17
attribute [instance] und17
@[reducible] def und18 := @Und.mk Try.prog 18 _ Try.underlying18
attribute [instance] und18
@[reducible] def und19 := @Und.mk Try.prog 19 _ Try.underlying19
attribute [instance] und19
@[reducible] def und20 := @Und.mk Try.prog 20 _ Try.underlying20
attribute [instance] und20
@[reducible] def und21 := @Und.mk Try.prog 21 _ Try.underlying21
attribute [instance] und21
@[reducible] def und22 := @Und.mk Try.prog 22 _ Try.underlying22
attribute [instance] und22
instance inf22 : Inf Try.prog 22 (.slice none 0 0) 1 24 := ⟨by kernel_rfl⟩
@[reducible] def und23 := @Und.mk Try.prog 23 _ Try.underlying23
attribute [instance] und23
@[reducible] def und24 := @Und.mk Try.prog 24 _ Try.underlying24
attribute [instance] und24
instance inf24 : Inf Try.prog 24 (.agg #[.slice none 0 0]) 1 24 := ⟨by kernel_rfl⟩
@[reducible] def und25 := @Und.mk Try.prog 25 _ Try.underlying25
attribute [instance] und25
@[reducible] def und26 := @Und.mk Try.prog 26 _ Try.underlying26
attribute [instance] und26
instance inf26 : Inf Try.prog 26 (.agg #[.slice none 0 0, .slice none 0 0]) 2 48 := ⟨by kernel_rfl⟩
@[reducible] def und27 := @Und.mk Try.prog 27 _ Try.underlying27
attribute [instance] und27
@[reducible] def und28 := @Und.mk Try.prog 28 _ Try.underlying28
attribute [instance] und28
@[reducible] def und29 := @Und.mk Try.prog 29 _ Try.underlying29
attribute [instance] und29
@[reducible] def und30 := @Und.mk Try.prog 30 _ Try.underlying30
attribute [instance] und30
@[reducible] def und31 := @Und.mk Try.prog 31 _ Try.underlying31
attribute [instance] und31
@[reducible] def und32 := @Und.mk Try.prog 32 _ Try.underlying32
attribute [instance] und32
@[reducible] def und33 := @Und.mk Try.prog 33 _ Try.underlying33
attribute [instance] und33
@[reducible] def und35 := @Und.mk Try.prog 35 _ Try.underlying35
attribute [instance] und35
@[reducible] def und36 := @Und.mk Try.prog 36 _ Try.underlying36
attribute [instance] und36
instance inf36 : Inf Try.prog 36 (.slice none 0 0) 1 24 := ⟨by kernel_rfl⟩
@[reducible] def und37 := @Und.mk Try.prog 37 _ Try.underlying37
attribute [instance] und37
@[reducible] def und38 := @Und.mk Try.prog 38 _ Try.underlying38
attribute [instance] und38
@[reducible] def und39 := @Und.mk Try.prog 39 _ Try.underlying39
attribute [instance] und39
@[reducible] def und40 := @Und.mk Try.prog 40 _ Try.underlying40
attribute [instance] und40
@[reducible] def und41 := @Und.mk Try.prog 41 _ Try.underlying41
attribute [instance] und41
@[reducible] def und42 := @Und.mk Try.prog 42 _ Try.underlying42
attribute [instance] und42
instance inf42 : Inf Try.prog 42 (.agg #[.int .i64 (0), .slice none 0 0]) 2 32 := ⟨by kernel_rfl⟩
@[reducible] def und44 := @Und.mk Try.prog 44 _ Try.underlying44
attribute [instance] und44
@[reducible] def und45 := @Und.mk Try.prog 45 _ Try.underlying45
attribute [instance] und45
@[reducible] def und47 := @Und.mk Try.prog 47 _ Try.underlying47
attribute [instance] und47
@[reducible] def und48 := @Und.mk Try.prog 48 _ Try.underlying48
attribute [instance] und48
@[reducible] def und49 := @Und.mk Try.prog 49 _ Try.underlying49
attribute [instance] und49
@[reducible] def und50 := @Und.mk Try.prog 50 _ Try.underlying50
attribute [instance] und50
@[reducible] def und51 := @Und.mk Try.prog 51 _ Try.underlying51
attribute [instance] und51
@[reducible] def und52 := @Und.mk Try.prog 52 _ Try.underlying52
attribute [instance] und52
@[reducible] def und53 := @Und.mk Try.prog 53 _ Try.underlying53
attribute [instance] und53
@[reducible] def und54 := @Und.mk Try.prog 54 _ Try.underlying54
attribute [instance] und54
@[reducible] def und55 := @Und.mk Try.prog 55 _ Try.underlying55
attribute [instance] und55
@[reducible] def und56 := @Und.mk Try.prog 56 _ Try.underlying56
attribute [instance] und56
@[reducible] def und58 := @Und.mk Try.prog 58 _ Try.underlying58
attribute [instance] und58
@[reducible] def und59 := @Und.mk Try.prog 59 _ Try.underlying59
attribute [instance] und59
@[reducible] def und60 := @Und.mk Try.prog 60 _ Try.underlying60
attribute [instance] und60
@[reducible] def und61 := @Und.mk Try.prog 61 _ Try.underlying61
attribute [instance] und61
@[reducible] def und62 := @Und.mk Try.prog 62 _ Try.underlying62
attribute [instance] und62
@[reducible] def und63 := @Und.mk Try.prog 63 _ Try.underlying63
attribute [instance] und63
@[reducible] def und64 := @Und.mk Try.prog 64 _ Try.underlying64
attribute [instance] und64
@[reducible] def und65 := @Und.mk Try.prog 65 _ Try.underlying65
attribute [instance] und65
@[reducible] def und66 := @Und.mk Try.prog 66 _ Try.underlying66
attribute [instance] und66
@[reducible] def und67 := @Und.mk Try.prog 67 _ Try.underlying67
attribute [instance] und67
@[reducible] def und69 := @Und.mk Try.prog 69 _ Try.underlying69
attribute [instance] und69
@[reducible] def und70 := @Und.mk Try.prog 70 _ Try.underlying70
attribute [instance] und70
@[reducible] def und71 := @Und.mk Try.prog 71 _ Try.underlying71
attribute [instance] und71
@[reducible] def und72 := @Und.mk Try.prog 72 _ Try.underlying72
attribute [instance] und72
instance inf72 : Inf Try.prog 72 (.agg #[.slice none 0 0, .slice none 0 0, .bool false]) 3 56 := ⟨by kernel_rfl⟩
@[reducible] def und73 := @Und.mk Try.prog 73 _ Try.underlying73
attribute [instance] und73
@[reducible] def und74 := @Und.mk Try.prog 74 _ Try.underlying74
attribute [instance] und74
@[reducible] def und75 := @Und.mk Try.prog 75 _ Try.underlying75
attribute [instance] und75
@[reducible] def und76 := @Und.mk Try.prog 76 _ Try.underlying76
attribute [instance] und76
@[reducible] def und77 := @Und.mk Try.prog 77 _ Try.underlying77
attribute [instance] und77
@[reducible] def und79 := @Und.mk Try.prog 79 _ Try.underlying79
attribute [instance] und79
@[reducible] def und80 := @Und.mk Try.prog 80 _ Try.underlying80
attribute [instance] und80
@[reducible] def und81 := @Und.mk Try.prog 81 _ Try.underlying81
attribute [instance] und81
@[reducible] def und82 := @Und.mk Try.prog 82 _ Try.underlying82
attribute [instance] und82
@[reducible] def und83 := @Und.mk Try.prog 83 _ Try.underlying83
attribute [instance] und83
@[reducible] def und84 := @Und.mk Try.prog 84 _ Try.underlying84
attribute [instance] und84
@[reducible] def und85 := @Und.mk Try.prog 85 _ Try.underlying85
attribute [instance] und85
@[reducible] def und86 := @Und.mk Try.prog 86 _ Try.underlying86
attribute [instance] und86
instance inf86 : Inf Try.prog 86 (.agg #[.slice none 0 0, .slice none 0 0, .bool false]) 3 56 := ⟨by kernel_rfl⟩
@[reducible] def und87 := @Und.mk Try.prog 87 _ Try.underlying87
attribute [instance] und87
@[reducible] def und88 := @Und.mk Try.prog 88 _ Try.underlying88
attribute [instance] und88
@[reducible] def und89 := @Und.mk Try.prog 89 _ Try.underlying89
attribute [instance] und89
@[reducible] def und90 := @Und.mk Try.prog 90 _ Try.underlying90
attribute [instance] und90
@[reducible] def und92 := @Und.mk Try.prog 92 _ Try.underlying92
attribute [instance] und92
@[reducible] def und93 := @Und.mk Try.prog 93 _ Try.underlying93
attribute [instance] und93
@[reducible] def und95 := @Und.mk Try.prog 95 _ Try.underlying95
attribute [instance] und95
@[reducible] def und96 := @Und.mk Try.prog 96 _ Try.underlying96
attribute [instance] und96
@[reducible] def und97 := @Und.mk Try.prog 97 _ Try.underlying97
attribute [instance] und97
@[reducible] def und98 := @Und.mk Try.prog 98 _ Try.underlying98
attribute [instance] und98
@[reducible] def und99 := @Und.mk Try.prog 99 _ Try.underlying99
attribute [instance] und99
@[reducible] def und101 := @Und.mk Try.prog 101 _ Try.underlying101
attribute [instance] und101
@[reducible] def und102 := @Und.mk Try.prog 102 _ Try.underlying102
attribute [instance] und102
@[reducible] def und104 := @Und.mk Try.prog 104 _ Try.underlying104
attribute [instance] und104
@[reducible] def und105 := @Und.mk Try.prog 105 _ Try.underlying105
attribute [instance] und105
@[reducible] def und106 := @Und.mk Try.prog 106 _ Try.underlying106
attribute [instance] und106
@[reducible] def und107 := @Und.mk Try.prog 107 _ Try.underlying107
attribute [instance] und107
@[reducible] def und108 := @Und.mk Try.prog 108 _ Try.underlying108
attribute [instance] und108
@[reducible] def und109 := @Und.mk Try.prog 109 _ Try.underlying109
attribute [instance] und109
instance inf109 : Inf Try.prog 109 (.agg #[.int .i64 (0), .int .i64 (0)]) 2 16 := ⟨by kernel_rfl⟩
@[reducible] def und110 := @Und.mk Try.prog 110 _ Try.underlying110
attribute [instance] und110
@[reducible] def und111 := @Und.mk Try.prog 111 _ Try.underlying111
attribute [instance] und111
@[reducible] def und112 := @Und.mk Try.prog 112 _ Try.underlying112
attribute [instance] und112
@[reducible] def und113 := @Und.mk Try.prog 113 _ Try.underlying113
attribute [instance] und113
@[reducible] def und114 := @Und.mk Try.prog 114 _ Try.underlying114
attribute [instance] und114
@[reducible] def und115 := @Und.mk Try.prog 115 _ Try.underlying115
attribute [instance] und115
@[reducible] def und116 := @Und.mk Try.prog 116 _ Try.underlying116
attribute [instance] und116
@[reducible] def und117 := @Und.mk Try.prog 117 _ Try.underlying117
attribute [instance] und117
@[reducible] def und118 := @Und.mk Try.prog 118 _ Try.underlying118
attribute [instance] und118
@[reducible] def und119 := @Und.mk Try.prog 119 _ Try.underlying119
attribute [instance] und119
@[reducible] def und120 := @Und.mk Try.prog 120 _ Try.underlying120
attribute [instance] und120
@[reducible] def und121 := @Und.mk Try.prog 121 _ Try.underlying121
attribute [instance] und121
@[reducible] def und122 := @Und.mk Try.prog 122 _ Try.underlying122
attribute [instance] und122
@[reducible] def und123 := @Und.mk Try.prog 123 _ Try.underlying123
attribute [instance] und123
@[reducible] def und124 := @Und.mk Try.prog 124 _ Try.underlying124
attribute [instance] und124
@[reducible] def und125 := @Und.mk Try.prog 125 _ Try.underlying125
attribute [instance] und125
@[reducible] def und126 := @Und.mk Try.prog 126 _ Try.underlying126
attribute [instance] und126
instance fnc4 : Fnc Try.prog 4 := ⟨_, Try.func4, by kernel_rfl, rfl⟩
instance fnc5 : Fnc Try.prog 5 := ⟨_, Try.func5, by kernel_rfl, rfl⟩
instance fnc6 : Fnc Try.prog 6 := ⟨_, Try.func6, by kernel_rfl, rfl⟩
instance fnc7 : Fnc Try.prog 7 := ⟨_, Try.func7, by kernel_rfl, rfl⟩
instance fnc8 : Fnc Try.prog 8 := ⟨_, Try.func8, by kernel_rfl, rfl⟩
instance fnc9 : Fnc Try.prog 9 := ⟨_, Try.func9, by kernel_rfl, rfl⟩
instance fnc10 : Fnc Try.prog 10 := ⟨_, Try.func10, by kernel_rfl, rfl⟩
instance fnc11 : Fnc Try.prog 11 := ⟨_, Try.func11, by kernel_rfl, rfl⟩
instance fnc12 : Fnc Try.prog 12 := ⟨_, Try.func12, by kernel_rfl, rfl⟩
instance fnc13 : Fnc Try.prog 13 := ⟨_, Try.func13, by kernel_rfl, rfl⟩
instance fnc14 : Fnc Try.prog 14 := ⟨_, Try.func14, by kernel_rfl, rfl⟩
instance fnc15 : Fnc Try.prog 15 := ⟨_, Try.func15, by kernel_rfl, rfl⟩
instance fnc16 : Fnc Try.prog 16 := ⟨_, Try.func16, by kernel_rfl, rfl⟩
instance fnc17 : Fnc Try.prog 17 := ⟨_, Try.func17, by kernel_rfl, rfl⟩
instance fnc18 : Fnc Try.prog 18 := ⟨_, Try.func18, by kernel_rfl, rfl⟩
instance fnc19 : Fnc Try.prog 19 := ⟨_, Try.func19, by kernel_rfl, rfl⟩
instance fnc20 : Fnc Try.prog 20 := ⟨_, Try.func20, by kernel_rfl, rfl⟩
instance fnc21 : Fnc Try.prog 21 := ⟨_, Try.func21, by kernel_rfl, rfl⟩
instance fnc22 : Fnc Try.prog 22 := ⟨_, Try.func22, by kernel_rfl, rfl⟩
instance fnc23 : Fnc Try.prog 23 := ⟨_, Try.func23, by kernel_rfl, rfl⟩
instance fnc24 : Fnc Try.prog 24 := ⟨_, Try.func24, by kernel_rfl, rfl⟩
instance fnc25 : Fnc Try.prog 25 := ⟨_, Try.func25, by kernel_rfl, rfl⟩
instance fnc26 : Fnc Try.prog 26 := ⟨_, Try.func26, by kernel_rfl, rfl⟩
instance fnc27 : Fnc Try.prog 27 := ⟨_, Try.func27, by kernel_rfl, rfl⟩
instance fnc28 : Fnc Try.prog 28 := ⟨_, Try.func28, by kernel_rfl, rfl⟩
instance fnc29 : Fnc Try.prog 29 := ⟨_, Try.func29, by kernel_rfl, rfl⟩
instance fnc30 : Fnc Try.prog 30 := ⟨_, Try.func30, by kernel_rfl, rfl⟩
instance fnc31 : Fnc Try.prog 31 := ⟨_, Try.func31, by kernel_rfl, rfl⟩
instance fnc32 : Fnc Try.prog 32 := ⟨_, Try.func32, by kernel_rfl, rfl⟩
instance fnc33 : Fnc Try.prog 33 := ⟨_, Try.func33, by kernel_rfl, rfl⟩
instance fnc34 : Fnc Try.prog 34 := ⟨_, Try.func34, by kernel_rfl, rfl⟩
instance fnc35 : Fnc Try.prog 35 := ⟨_, Try.func35, by kernel_rfl, rfl⟩
instance fnc36 : Fnc Try.prog 36 := ⟨_, Try.func36, by kernel_rfl, rfl⟩
instance fnc37 : Fnc Try.prog 37 := ⟨_, Try.func37, by kernel_rfl, rfl⟩
instance fnc38 : Fnc Try.prog 38 := ⟨_, Try.func38, by kernel_rfl, rfl⟩
instance fnc39 : Fnc Try.prog 39 := ⟨_, Try.func39, by kernel_rfl, rfl⟩
instance fnc40 : Fnc Try.prog 40 := ⟨_, Try.func40, by kernel_rfl, rfl⟩
instance fnc41 : Fnc Try.prog 41 := ⟨_, Try.func41, by kernel_rfl, rfl⟩
instance fnc42 : Fnc Try.prog 42 := ⟨_, Try.func42, by kernel_rfl, rfl⟩
instance fnc43 : Fnc Try.prog 43 := ⟨_, Try.func43, by kernel_rfl, rfl⟩
instance fnc44 : Fnc Try.prog 44 := ⟨_, Try.func44, by kernel_rfl, rfl⟩
instance fnc45 : Fnc Try.prog 45 := ⟨_, Try.func45, by kernel_rfl, rfl⟩
instance fnc46 : Fnc Try.prog 46 := ⟨_, Try.func46, by kernel_rfl, rfl⟩
instance fnc47 : Fnc Try.prog 47 := ⟨_, Try.func47, by kernel_rfl, rfl⟩
instance fnc48 : Fnc Try.prog 48 := ⟨_, Try.func48, by kernel_rfl, rfl⟩
instance fnc49 : Fnc Try.prog 49 := ⟨_, Try.func49, by kernel_rfl, rfl⟩
instance fnc50 : Fnc Try.prog 50 := ⟨_, Try.func50, by kernel_rfl, rfl⟩
instance fnc51 : Fnc Try.prog 51 := ⟨_, Try.func51, by kernel_rfl, rfl⟩
instance fnc52 : Fnc Try.prog 52 := ⟨_, Try.func52, by kernel_rfl, rfl⟩
instance fnc53 : Fnc Try.prog 53 := ⟨_, Try.func53, by kernel_rfl, rfl⟩
instance fnc54 : Fnc Try.prog 54 := ⟨_, Try.func54, by kernel_rfl, rfl⟩
instance fnc55 : Fnc Try.prog 55 := ⟨_, Try.func55, by kernel_rfl, rfl⟩
instance fnc56 : Fnc Try.prog 56 := ⟨_, Try.func56, by kernel_rfl, rfl⟩
instance fnc57 : Fnc Try.prog 57 := ⟨_, Try.func57, by kernel_rfl, rfl⟩
instance fnc58 : Fnc Try.prog 58 := ⟨_, Try.func58, by kernel_rfl, rfl⟩
instance fnc59 : Fnc Try.prog 59 := ⟨_, Try.func59, by kernel_rfl, rfl⟩
instance fnc60 : Fnc Try.prog 60 := ⟨_, Try.func60, by kernel_rfl, rfl⟩
instance fnc61 : Fnc Try.prog 61 := ⟨_, Try.func61, by kernel_rfl, rfl⟩
instance fnc62 : Fnc Try.prog 62 := ⟨_, Try.func62, by kernel_rfl, rfl⟩
instance fnc63 : Fnc Try.prog 63 := ⟨_, Try.func63, by kernel_rfl, rfl⟩
instance fnc64 : Fnc Try.prog 64 := ⟨_, Try.func64, by kernel_rfl, rfl⟩
instance fnc65 : Fnc Try.prog 65 := ⟨_, Try.func65, by kernel_rfl, rfl⟩
instance fnc66 : Fnc Try.prog 66 := ⟨_, Try.func66, by kernel_rfl, rfl⟩
instance fnc67 : Fnc Try.prog 67 := ⟨_, Try.func67, by kernel_rfl, rfl⟩
instance fnc68 : Fnc Try.prog 68 := ⟨_, Try.func68, by kernel_rfl, rfl⟩
instance fnc69 : Fnc Try.prog 69 := ⟨_, Try.func69, by kernel_rfl, rfl⟩
instance fnc70 : Fnc Try.prog 70 := ⟨_, Try.func70, by kernel_rfl, rfl⟩
instance fnc71 : Fnc Try.prog 71 := ⟨_, Try.func71, by kernel_rfl, rfl⟩
instance fnc72 : Fnc Try.prog 72 := ⟨_, Try.func72, by kernel_rfl, rfl⟩
instance fnc73 : Fnc Try.prog 73 := ⟨_, Try.func73, by kernel_rfl, rfl⟩
instance fnc74 : Fnc Try.prog 74 := ⟨_, Try.func74, by kernel_rfl, rfl⟩
instance fnc75 : Fnc Try.prog 75 := ⟨_, Try.func75, by kernel_rfl, rfl⟩
instance fnc76 : Fnc Try.prog 76 := ⟨_, Try.func76, by kernel_rfl, rfl⟩
instance fnc77 : Fnc Try.prog 77 := ⟨_, Try.func77, by kernel_rfl, rfl⟩
instance fnc78 : Fnc Try.prog 78 := ⟨_, Try.func78, by kernel_rfl, rfl⟩
instance fnc79 : Fnc Try.prog 79 := ⟨_, Try.func79, by kernel_rfl, rfl⟩
instance fnc81 : Fnc Try.prog 81 := ⟨_, Try.func81, by kernel_rfl, rfl⟩
instance fnc82 : Fnc Try.prog 82 := ⟨_, Try.func82, by kernel_rfl, rfl⟩
instance fnc83 : Fnc Try.prog 83 := ⟨_, Try.func83, by kernel_rfl, rfl⟩
instance fnc84 : Fnc Try.prog 84 := ⟨_, Try.func84, by kernel_rfl, rfl⟩
instance fnc85 : Fnc Try.prog 85 := ⟨_, Try.func85, by kernel_rfl, rfl⟩
instance fnc86 : Fnc Try.prog 86 := ⟨_, Try.func86, by kernel_rfl, rfl⟩
end Go.Proofs.Ytjpkmpihmilgoaa.Vc
