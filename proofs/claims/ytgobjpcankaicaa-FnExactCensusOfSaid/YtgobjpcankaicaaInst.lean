/-
  The rows of the program's tables, as instances of the calculus. Conditions: none. Printed by a program.
-/
import Derived.Test.YtgobjpcankaicaaZa
import Derived.Test.YtgobjpcankaicaaProg
import Derived.KernelRfl
namespace Go.Proofs.Ytgobjpcankaicaa.Vc
@[reducible] def und1 := @Und.mk Try.prog 1 _ Try.underlying1
attribute [instance] und1
instance inf1 : Inf Try.prog 1 (.nilFunc) 1 8 := ⟨by kernel_rfl⟩
@[reducible] def und2 := @Und.mk Try.prog 2 _ Try.underlying2
attribute [instance] und2
instance inf2 : Inf Try.prog 2 (.int .i64 (0)) 1 8 := ⟨by kernel_rfl⟩
@[reducible] def und3 := @Und.mk Try.prog 3 _ Try.underlying3
attribute [instance] und3
instance inf3 : Inf Try.prog 3 (.int .i64 (0)) 1 8 := ⟨by kernel_rfl⟩
@[reducible] def und4 := @Und.mk Try.prog 4 _ Try.underlying4
attribute [instance] und4
instance inf4 : Inf Try.prog 4 (.bool false) 1 1 := ⟨by kernel_rfl⟩
@[reducible] def und5 := @Und.mk Try.prog 5 _ Try.underlying5
attribute [instance] und5
instance inf5 : Inf Try.prog 5 (.int .u8 (0)) 1 1 := ⟨by kernel_rfl⟩
@[reducible] def und6 := @Und.mk Try.prog 6 _ Try.underlying6
attribute [instance] und6
instance inf6 : Inf Try.prog 6 (.int .u8 (0)) 1 1 := ⟨by kernel_rfl⟩
@[reducible] def und7 := @Und.mk Try.prog 7 _ Try.underlying7
attribute [instance] und7
instance inf7 : Inf Try.prog 7 (.agg #[.int .i64 (0), .int .i64 (0), .bool false, .int .u8 (0)]) 4 24 := ⟨by kernel_rfl⟩
@[reducible] def und8 := @Und.mk Try.prog 8 _ Try.underlying8
attribute [instance] und8
instance inf8 : Inf Try.prog 8 (.agg #[.int .i64 (0), .int .i64 (0), .bool false, .int .u8 (0)]) 4 24 := ⟨by kernel_rfl⟩
@[reducible] def und9 := @Und.mk Try.prog 9 _ Try.underlying9
attribute [instance] und9
instance inf9 : Inf Try.prog 9 (.string .empty) 1 16 := ⟨by kernel_rfl⟩
@[reducible] def und10 := @Und.mk Try.prog 10 _ Try.underlying10
attribute [instance] und10
instance inf10 : Inf Try.prog 10 (.string .empty) 1 16 := ⟨by kernel_rfl⟩
@[reducible] def und11 := @Und.mk Try.prog 11 _ Try.underlying11
attribute [instance] und11
instance inf11 : Inf Try.prog 11 (.string .empty) 1 16 := ⟨by kernel_rfl⟩
@[reducible] def und12 := @Und.mk Try.prog 12 _ Try.underlying12
attribute [instance] und12
instance inf12 : Inf Try.prog 12 (.int .u64 (0)) 1 8 := ⟨by kernel_rfl⟩
@[reducible] def und13 := @Und.mk Try.prog 13 _ Try.underlying13
attribute [instance] und13
instance inf13 : Inf Try.prog 13 (.agg #[.string .empty, .int .u64 (0)]) 2 24 := ⟨by kernel_rfl⟩
@[reducible] def und14 := @Und.mk Try.prog 14 _ Try.underlying14
attribute [instance] und14
instance inf14 : Inf Try.prog 14 (.agg #[.string .empty, .int .u64 (0)]) 2 24 := ⟨by kernel_rfl⟩
@[reducible] def und15 := @Und.mk Try.prog 15 _ Try.underlying15
attribute [instance] und15
instance inf15 : Inf Try.prog 15 (.pointer none) 1 8 := ⟨by kernel_rfl⟩
@[reducible] def und16 := @Und.mk Try.prog 16 _ Try.underlying16
attribute [instance] und16
instance inf16 : Inf Try.prog 16 (.pointer none) 1 8 := ⟨by kernel_rfl⟩
@[reducible] def und17 := @Und.mk Try.prog 17 _ Try.underlying17
attribute [instance] und17
instance inf17 : Inf Try.prog 17 (.pointer none) 1 8 := ⟨by kernel_rfl⟩
@[reducible] def und18 := @Und.mk Try.prog 18 _ Try.underlying18
attribute [instance] und18
instance inf18 : Inf Try.prog 18 (.agg #[.pointer none]) 1 8 := ⟨by kernel_rfl⟩
@[reducible] def und19 := @Und.mk Try.prog 19 _ Try.underlying19
attribute [instance] und19
instance inf19 : Inf Try.prog 19 (.agg #[.pointer none]) 1 8 := ⟨by kernel_rfl⟩
@[reducible] def und20 := @Und.mk Try.prog 20 _ Try.underlying20
attribute [instance] und20
instance inf20 : Inf Try.prog 20 (.nilIface) 1 16 := ⟨by kernel_rfl⟩
@[reducible] def und21 := @Und.mk Try.prog 21 _ Try.underlying21
attribute [instance] und21
instance inf21 : Inf Try.prog 21 (.int .i32 (0)) 1 4 := ⟨by kernel_rfl⟩
@[reducible] def und22 := @Und.mk Try.prog 22 _ Try.underlying22
attribute [instance] und22
instance inf22 : Inf Try.prog 22 (.slice none 0 0) 1 24 := ⟨by kernel_rfl⟩
@[reducible] def und23 := @Und.mk Try.prog 23 _ Try.underlying23
attribute [instance] und23
instance inf23 : Inf Try.prog 23 (.agg #[.slice none 0 0]) 1 24 := ⟨by kernel_rfl⟩
@[reducible] def und24 := @Und.mk Try.prog 24 _ Try.underlying24
attribute [instance] und24
instance inf24 : Inf Try.prog 24 (.agg #[.slice none 0 0]) 1 24 := ⟨by kernel_rfl⟩
@[reducible] def und25 := @Und.mk Try.prog 25 _ Try.underlying25
attribute [instance] und25
instance inf25 : Inf Try.prog 25 (.agg #[.slice none 0 0, .slice none 0 0]) 2 48 := ⟨by kernel_rfl⟩
@[reducible] def und26 := @Und.mk Try.prog 26 _ Try.underlying26
attribute [instance] und26
instance inf26 : Inf Try.prog 26 (.agg #[.slice none 0 0, .slice none 0 0]) 2 48 := ⟨by kernel_rfl⟩
@[reducible] def und27 := @Und.mk Try.prog 27 _ Try.underlying27
attribute [instance] und27
instance inf27 : Inf Try.prog 27 (.nilFunc) 1 8 := ⟨by kernel_rfl⟩
@[reducible] def und28 := @Und.mk Try.prog 28 _ Try.underlying28
attribute [instance] und28
instance inf28 : Inf Try.prog 28 (.nilFunc) 1 8 := ⟨by kernel_rfl⟩
@[reducible] def und29 := @Und.mk Try.prog 29 _ Try.underlying29
attribute [instance] und29
instance inf29 : Inf Try.prog 29 (.nilFunc) 1 8 := ⟨by kernel_rfl⟩
@[reducible] def und30 := @Und.mk Try.prog 30 _ Try.underlying30
attribute [instance] und30
instance inf30 : Inf Try.prog 30 (.nilFunc) 1 8 := ⟨by kernel_rfl⟩
@[reducible] def und31 := @Und.mk Try.prog 31 _ Try.underlying31
attribute [instance] und31
instance inf31 : Inf Try.prog 31 (.agg #[.slice none 0 0]) 1 24 := ⟨by kernel_rfl⟩
@[reducible] def und32 := @Und.mk Try.prog 32 _ Try.underlying32
attribute [instance] und32
instance inf32 : Inf Try.prog 32 (.nilFunc) 1 8 := ⟨by kernel_rfl⟩
@[reducible] def und33 := @Und.mk Try.prog 33 _ Try.underlying33
attribute [instance] und33
instance inf33 : Inf Try.prog 33 (.slice none 0 0) 1 24 := ⟨by kernel_rfl⟩
@[reducible] def und35 := @Und.mk Try.prog 35 _ Try.underlying35
attribute [instance] und35
instance inf35 : Inf Try.prog 35 (.nilFunc) 1 8 := ⟨by kernel_rfl⟩
@[reducible] def und36 := @Und.mk Try.prog 36 _ Try.underlying36
attribute [instance] und36
instance inf36 : Inf Try.prog 36 (.nilFunc) 1 8 := ⟨by kernel_rfl⟩
@[reducible] def und37 := @Und.mk Try.prog 37 _ Try.underlying37
attribute [instance] und37
instance inf37 : Inf Try.prog 37 (.nilFunc) 1 8 := ⟨by kernel_rfl⟩
@[reducible] def und38 := @Und.mk Try.prog 38 _ Try.underlying38
attribute [instance] und38
instance inf38 : Inf Try.prog 38 (.nilFunc) 1 8 := ⟨by kernel_rfl⟩
@[reducible] def und39 := @Und.mk Try.prog 39 _ Try.underlying39
attribute [instance] und39
instance inf39 : Inf Try.prog 39 (.nilFunc) 1 8 := ⟨by kernel_rfl⟩
@[reducible] def und40 := @Und.mk Try.prog 40 _ Try.underlying40
attribute [instance] und40
instance inf40 : Inf Try.prog 40 (.nilFunc) 1 8 := ⟨by kernel_rfl⟩
@[reducible] def und41 := @Und.mk Try.prog 41 _ Try.underlying41
attribute [instance] und41
instance inf41 : Inf Try.prog 41 (.nilFunc) 1 8 := ⟨by kernel_rfl⟩
@[reducible] def und42 := @Und.mk Try.prog 42 _ Try.underlying42
attribute [instance] und42
instance inf42 : Inf Try.prog 42 (.nilFunc) 1 8 := ⟨by kernel_rfl⟩
@[reducible] def und43 := @Und.mk Try.prog 43 _ Try.underlying43
attribute [instance] und43
instance inf43 : Inf Try.prog 43 (.nilFunc) 1 8 := ⟨by kernel_rfl⟩
@[reducible] def und45 := @Und.mk Try.prog 45 _ Try.underlying45
attribute [instance] und45
instance inf45 : Inf Try.prog 45 (.nilFunc) 1 8 := ⟨by kernel_rfl⟩
@[reducible] def und46 := @Und.mk Try.prog 46 _ Try.underlying46
attribute [instance] und46
instance inf46 : Inf Try.prog 46 (.nilFunc) 1 8 := ⟨by kernel_rfl⟩
@[reducible] def und47 := @Und.mk Try.prog 47 _ Try.underlying47
attribute [instance] und47
instance inf47 : Inf Try.prog 47 (.nilFunc) 1 8 := ⟨by kernel_rfl⟩
@[reducible] def und49 := @Und.mk Try.prog 49 _ Try.underlying49
attribute [instance] und49
instance inf49 : Inf Try.prog 49 (.nilFunc) 1 8 := ⟨by kernel_rfl⟩
@[reducible] def und50 := @Und.mk Try.prog 50 _ Try.underlying50
attribute [instance] und50
instance inf50 : Inf Try.prog 50 (.nilFunc) 1 8 := ⟨by kernel_rfl⟩
@[reducible] def und51 := @Und.mk Try.prog 51 _ Try.underlying51
attribute [instance] und51
instance inf51 : Inf Try.prog 51 (.slice none 0 0) 1 24 := ⟨by kernel_rfl⟩
@[reducible] def und53 := @Und.mk Try.prog 53 _ Try.underlying53
attribute [instance] und53
instance inf53 : Inf Try.prog 53 (.nilFunc) 1 8 := ⟨by kernel_rfl⟩
@[reducible] def und54 := @Und.mk Try.prog 54 _ Try.underlying54
attribute [instance] und54
instance inf54 : Inf Try.prog 54 (.nilFunc) 1 8 := ⟨by kernel_rfl⟩
@[reducible] def und55 := @Und.mk Try.prog 55 _ Try.underlying55
attribute [instance] und55
instance inf55 : Inf Try.prog 55 (.nilFunc) 1 8 := ⟨by kernel_rfl⟩
@[reducible] def und56 := @Und.mk Try.prog 56 _ Try.underlying56
attribute [instance] und56
instance inf56 : Inf Try.prog 56 (.nilFunc) 1 8 := ⟨by kernel_rfl⟩
@[reducible] def und57 := @Und.mk Try.prog 57 _ Try.underlying57
attribute [instance] und57
instance inf57 : Inf Try.prog 57 (.slice none 0 0) 1 24 := ⟨by kernel_rfl⟩
@[reducible] def und59 := @Und.mk Try.prog 59 _ Try.underlying59
attribute [instance] und59
instance inf59 : Inf Try.prog 59 (.nilFunc) 1 8 := ⟨by kernel_rfl⟩
@[reducible] def und60 := @Und.mk Try.prog 60 _ Try.underlying60
attribute [instance] und60
instance inf60 : Inf Try.prog 60 (.nilFunc) 1 8 := ⟨by kernel_rfl⟩
@[reducible] def und61 := @Und.mk Try.prog 61 _ Try.underlying61
attribute [instance] und61
instance inf61 : Inf Try.prog 61 (.nilFunc) 1 8 := ⟨by kernel_rfl⟩
@[reducible] def und62 := @Und.mk Try.prog 62 _ Try.underlying62
attribute [instance] und62
instance inf62 : Inf Try.prog 62 (.nilFunc) 1 8 := ⟨by kernel_rfl⟩
@[reducible] def und63 := @Und.mk Try.prog 63 _ Try.underlying63
attribute [instance] und63
instance inf63 : Inf Try.prog 63 (.nilFunc) 1 8 := ⟨by kernel_rfl⟩
@[reducible] def und64 := @Und.mk Try.prog 64 _ Try.underlying64
attribute [instance] und64
instance inf64 : Inf Try.prog 64 (.nilFunc) 1 8 := ⟨by kernel_rfl⟩
@[reducible] def und65 := @Und.mk Try.prog 65 _ Try.underlying65
attribute [instance] und65
instance inf65 : Inf Try.prog 65 (.nilFunc) 1 8 := ⟨by kernel_rfl⟩
@[reducible] def und66 := @Und.mk Try.prog 66 _ Try.underlying66
attribute [instance] und66
instance inf66 : Inf Try.prog 66 (.nilFunc) 1 8 := ⟨by kernel_rfl⟩
@[reducible] def und67 := @Und.mk Try.prog 67 _ Try.underlying67
attribute [instance] und67
instance inf67 : Inf Try.prog 67 (.nilFunc) 1 8 := ⟨by kernel_rfl⟩
@[reducible] def und68 := @Und.mk Try.prog 68 _ Try.underlying68
attribute [instance] und68
instance inf68 : Inf Try.prog 68 (.nilFunc) 1 8 := ⟨by kernel_rfl⟩
@[reducible] def und70 := @Und.mk Try.prog 70 _ Try.underlying70
attribute [instance] und70
instance inf70 : Inf Try.prog 70 (.nilFunc) 1 8 := ⟨by kernel_rfl⟩
@[reducible] def und71 := @Und.mk Try.prog 71 _ Try.underlying71
attribute [instance] und71
instance inf71 : Inf Try.prog 71 (.nilFunc) 1 8 := ⟨by kernel_rfl⟩
@[reducible] def und72 := @Und.mk Try.prog 72 _ Try.underlying72
attribute [instance] und72
instance inf72 : Inf Try.prog 72 (.nilFunc) 1 8 := ⟨by kernel_rfl⟩
@[reducible] def und73 := @Und.mk Try.prog 73 _ Try.underlying73
attribute [instance] und73
instance inf73 : Inf Try.prog 73 (.nilFunc) 1 8 := ⟨by kernel_rfl⟩
@[reducible] def und74 := @Und.mk Try.prog 74 _ Try.underlying74
attribute [instance] und74
instance inf74 : Inf Try.prog 74 (.nilFunc) 1 8 := ⟨by kernel_rfl⟩
@[reducible] def und75 := @Und.mk Try.prog 75 _ Try.underlying75
attribute [instance] und75
instance inf75 : Inf Try.prog 75 (.nilFunc) 1 8 := ⟨by kernel_rfl⟩
@[reducible] def und77 := @Und.mk Try.prog 77 _ Try.underlying77
attribute [instance] und77
instance inf77 : Inf Try.prog 77 (.nilFunc) 1 8 := ⟨by kernel_rfl⟩
@[reducible] def und78 := @Und.mk Try.prog 78 _ Try.underlying78
attribute [instance] und78
instance inf78 : Inf Try.prog 78 (.nilFunc) 1 8 := ⟨by kernel_rfl⟩
@[reducible] def und79 := @Und.mk Try.prog 79 _ Try.underlying79
attribute [instance] und79
instance inf79 : Inf Try.prog 79 (.nilFunc) 1 8 := ⟨by kernel_rfl⟩
@[reducible] def und80 := @Und.mk Try.prog 80 _ Try.underlying80
attribute [instance] und80
instance inf80 : Inf Try.prog 80 (.nilFunc) 1 8 := ⟨by kernel_rfl⟩
@[reducible] def und82 := @Und.mk Try.prog 82 _ Try.underlying82
attribute [instance] und82
instance inf82 : Inf Try.prog 82 (.nilFunc) 1 8 := ⟨by kernel_rfl⟩
@[reducible] def und84 := @Und.mk Try.prog 84 _ Try.underlying84
attribute [instance] und84
instance inf84 : Inf Try.prog 84 (.nilFunc) 1 8 := ⟨by kernel_rfl⟩
@[reducible] def und85 := @Und.mk Try.prog 85 _ Try.underlying85
attribute [instance] und85
instance inf85 : Inf Try.prog 85 (.nilFunc) 1 8 := ⟨by kernel_rfl⟩
@[reducible] def und86 := @Und.mk Try.prog 86 _ Try.underlying86
attribute [instance] und86
instance inf86 : Inf Try.prog 86 (.agg #[.slice none 0 0, .int .i64 (0)]) 2 32 := ⟨by kernel_rfl⟩
@[reducible] def und87 := @Und.mk Try.prog 87 _ Try.underlying87
attribute [instance] und87
instance inf87 : Inf Try.prog 87 (.agg #[.slice none 0 0, .int .i64 (0)]) 2 32 := ⟨by kernel_rfl⟩
@[reducible] def und88 := @Und.mk Try.prog 88 _ Try.underlying88
attribute [instance] und88
instance inf88 : Inf Try.prog 88 (.nilFunc) 1 8 := ⟨by kernel_rfl⟩
@[reducible] def und89 := @Und.mk Try.prog 89 _ Try.underlying89
attribute [instance] und89
instance inf89 : Inf Try.prog 89 (.nilFunc) 1 8 := ⟨by kernel_rfl⟩
@[reducible] def und90 := @Und.mk Try.prog 90 _ Try.underlying90
attribute [instance] und90
instance inf90 : Inf Try.prog 90 (.nilFunc) 1 8 := ⟨by kernel_rfl⟩
@[reducible] def und91 := @Und.mk Try.prog 91 _ Try.underlying91
attribute [instance] und91
instance inf91 : Inf Try.prog 91 (.nilFunc) 1 8 := ⟨by kernel_rfl⟩
@[reducible] def und92 := @Und.mk Try.prog 92 _ Try.underlying92
attribute [instance] und92
instance inf92 : Inf Try.prog 92 (.nilFunc) 1 8 := ⟨by kernel_rfl⟩
@[reducible] def und93 := @Und.mk Try.prog 93 _ Try.underlying93
attribute [instance] und93
instance inf93 : Inf Try.prog 93 (.nilFunc) 1 8 := ⟨by kernel_rfl⟩
@[reducible] def und94 := @Und.mk Try.prog 94 _ Try.underlying94
attribute [instance] und94
instance inf94 : Inf Try.prog 94 (.nilFunc) 1 8 := ⟨by kernel_rfl⟩
@[reducible] def und95 := @Und.mk Try.prog 95 _ Try.underlying95
attribute [instance] und95
instance inf95 : Inf Try.prog 95 (.nilFunc) 1 8 := ⟨by kernel_rfl⟩
@[reducible] def und96 := @Und.mk Try.prog 96 _ Try.underlying96
attribute [instance] und96
instance inf96 : Inf Try.prog 96 (.nilFunc) 1 8 := ⟨by kernel_rfl⟩
@[reducible] def und97 := @Und.mk Try.prog 97 _ Try.underlying97
attribute [instance] und97
instance inf97 : Inf Try.prog 97 (.nilFunc) 1 8 := ⟨by kernel_rfl⟩
@[reducible] def und98 := @Und.mk Try.prog 98 _ Try.underlying98
attribute [instance] und98
instance inf98 : Inf Try.prog 98 (.nilFunc) 1 8 := ⟨by kernel_rfl⟩
@[reducible] def und99 := @Und.mk Try.prog 99 _ Try.underlying99
attribute [instance] und99
instance inf99 : Inf Try.prog 99 (.nilFunc) 1 8 := ⟨by kernel_rfl⟩
@[reducible] def und100 := @Und.mk Try.prog 100 _ Try.underlying100
attribute [instance] und100
instance inf100 : Inf Try.prog 100 (.nilFunc) 1 8 := ⟨by kernel_rfl⟩
@[reducible] def und101 := @Und.mk Try.prog 101 _ Try.underlying101
attribute [instance] und101
instance inf101 : Inf Try.prog 101 (.nilFunc) 1 8 := ⟨by kernel_rfl⟩
@[reducible] def und102 := @Und.mk Try.prog 102 _ Try.underlying102
attribute [instance] und102
instance inf102 : Inf Try.prog 102 (.nilFunc) 1 8 := ⟨by kernel_rfl⟩
@[reducible] def und103 := @Und.mk Try.prog 103 _ Try.underlying103
attribute [instance] und103
instance inf103 : Inf Try.prog 103 (.nilFunc) 1 8 := ⟨by kernel_rfl⟩
@[reducible] def und104 := @Und.mk Try.prog 104 _ Try.underlying104
attribute [instance] und104
instance inf104 : Inf Try.prog 104 (.nilFunc) 1 8 := ⟨by kernel_rfl⟩
@[reducible] def und105 := @Und.mk Try.prog 105 _ Try.underlying105
attribute [instance] und105
instance inf105 : Inf Try.prog 105 (.pointer none) 1 8 := ⟨by kernel_rfl⟩
@[reducible] def und106 := @Und.mk Try.prog 106 _ Try.underlying106
attribute [instance] und106
instance inf106 : Inf Try.prog 106 (.nilFunc) 1 8 := ⟨by kernel_rfl⟩
@[reducible] def und107 := @Und.mk Try.prog 107 _ Try.underlying107
attribute [instance] und107
instance inf107 : Inf Try.prog 107 (.nilFunc) 1 8 := ⟨by kernel_rfl⟩
@[reducible] def und108 := @Und.mk Try.prog 108 _ Try.underlying108
attribute [instance] und108
instance inf108 : Inf Try.prog 108 (.nilFunc) 1 8 := ⟨by kernel_rfl⟩
@[reducible] def und109 := @Und.mk Try.prog 109 _ Try.underlying109
attribute [instance] und109
instance inf109 : Inf Try.prog 109 (.nilFunc) 1 8 := ⟨by kernel_rfl⟩
@[reducible] def und110 := @Und.mk Try.prog 110 _ Try.underlying110
attribute [instance] und110
instance inf110 : Inf Try.prog 110 (.nilFunc) 1 8 := ⟨by kernel_rfl⟩
@[reducible] def und111 := @Und.mk Try.prog 111 _ Try.underlying111
attribute [instance] und111
instance inf111 : Inf Try.prog 111 (.nilFunc) 1 8 := ⟨by kernel_rfl⟩
@[reducible] def und112 := @Und.mk Try.prog 112 _ Try.underlying112
attribute [instance] und112
instance inf112 : Inf Try.prog 112 (.int .u64 (0)) 1 8 := ⟨by kernel_rfl⟩
@[reducible] def und113 := @Und.mk Try.prog 113 _ Try.underlying113
attribute [instance] und113
instance inf113 : Inf Try.prog 113 (.nilFunc) 1 8 := ⟨by kernel_rfl⟩
@[reducible] def und114 := @Und.mk Try.prog 114 _ Try.underlying114
attribute [instance] und114
instance inf114 : Inf Try.prog 114 (.nilFunc) 1 8 := ⟨by kernel_rfl⟩
@[reducible] def und115 := @Und.mk Try.prog 115 _ Try.underlying115
attribute [instance] und115
instance inf115 : Inf Try.prog 115 (.nilFunc) 1 8 := ⟨by kernel_rfl⟩
@[reducible] def und116 := @Und.mk Try.prog 116 _ Try.underlying116
attribute [instance] und116
instance inf116 : Inf Try.prog 116 (.agg #[.int .i64 (0), .slice none 0 0]) 2 32 := ⟨by kernel_rfl⟩
@[reducible] def und117 := @Und.mk Try.prog 117 _ Try.underlying117
attribute [instance] und117
instance inf117 : Inf Try.prog 117 (.agg #[.int .i64 (0), .slice none 0 0]) 2 32 := ⟨by kernel_rfl⟩
@[reducible] def und119 := @Und.mk Try.prog 119 _ Try.underlying119
attribute [instance] und119
instance inf119 : Inf Try.prog 119 (.nilFunc) 1 8 := ⟨by kernel_rfl⟩
@[reducible] def und120 := @Und.mk Try.prog 120 _ Try.underlying120
attribute [instance] und120
instance inf120 : Inf Try.prog 120 (.nilFunc) 1 8 := ⟨by kernel_rfl⟩
@[reducible] def und121 := @Und.mk Try.prog 121 _ Try.underlying121
attribute [instance] und121
instance inf121 : Inf Try.prog 121 (.nilFunc) 1 8 := ⟨by kernel_rfl⟩
@[reducible] def und122 := @Und.mk Try.prog 122 _ Try.underlying122
attribute [instance] und122
instance inf122 : Inf Try.prog 122 (.nilFunc) 1 8 := ⟨by kernel_rfl⟩
@[reducible] def und123 := @Und.mk Try.prog 123 _ Try.underlying123
attribute [instance] und123
instance inf123 : Inf Try.prog 123 (.nilFunc) 1 8 := ⟨by kernel_rfl⟩
@[reducible] def und124 := @Und.mk Try.prog 124 _ Try.underlying124
attribute [instance] und124
instance inf124 : Inf Try.prog 124 (.nilFunc) 1 8 := ⟨by kernel_rfl⟩
@[reducible] def und125 := @Und.mk Try.prog 125 _ Try.underlying125
attribute [instance] und125
instance inf125 : Inf Try.prog 125 (.nilFunc) 1 8 := ⟨by kernel_rfl⟩
@[reducible] def und126 := @Und.mk Try.prog 126 _ Try.underlying126
attribute [instance] und126
instance inf126 : Inf Try.prog 126 (.nilFunc) 1 8 := ⟨by kernel_rfl⟩
@[reducible] def und127 := @Und.mk Try.prog 127 _ Try.underlying127
attribute [instance] und127
instance inf127 : Inf Try.prog 127 (.nilFunc) 1 8 := ⟨by kernel_rfl⟩
@[reducible] def und128 := @Und.mk Try.prog 128 _ Try.underlying128
attribute [instance] und128
instance inf128 : Inf Try.prog 128 (.nilFunc) 1 8 := ⟨by kernel_rfl⟩
@[reducible] def und129 := @Und.mk Try.prog 129 _ Try.underlying129
attribute [instance] und129
instance inf129 : Inf Try.prog 129 (.nilFunc) 1 8 := ⟨by kernel_rfl⟩
@[reducible] def und131 := @Und.mk Try.prog 131 _ Try.underlying131
attribute [instance] und131
instance inf131 : Inf Try.prog 131 (.nilFunc) 1 8 := ⟨by kernel_rfl⟩
@[reducible] def und132 := @Und.mk Try.prog 132 _ Try.underlying132
attribute [instance] und132
instance inf132 : Inf Try.prog 132 (.nilFunc) 1 8 := ⟨by kernel_rfl⟩
@[reducible] def und133 := @Und.mk Try.prog 133 _ Try.underlying133
attribute [instance] und133
instance inf133 : Inf Try.prog 133 (.nilFunc) 1 8 := ⟨by kernel_rfl⟩
@[reducible] def und134 := @Und.mk Try.prog 134 _ Try.underlying134
attribute [instance] und134
instance inf134 : Inf Try.prog 134 (.pointer none) 1 8 := ⟨by kernel_rfl⟩
@[reducible] def und135 := @Und.mk Try.prog 135 _ Try.underlying135
attribute [instance] und135
instance inf135 : Inf Try.prog 135 (.agg #[.slice none 0 0, .int .i64 (0), .int .i64 (0), .slice none 0 0]) 4 64 := ⟨by kernel_rfl⟩
@[reducible] def und136 := @Und.mk Try.prog 136 _ Try.underlying136
attribute [instance] und136
instance inf136 : Inf Try.prog 136 (.agg #[.slice none 0 0, .int .i64 (0), .int .i64 (0), .slice none 0 0]) 4 64 := ⟨by kernel_rfl⟩
@[reducible] def und137 := @Und.mk Try.prog 137 _ Try.underlying137
attribute [instance] und137
instance inf137 : Inf Try.prog 137 (.nilFunc) 1 8 := ⟨by kernel_rfl⟩
@[reducible] def und138 := @Und.mk Try.prog 138 _ Try.underlying138
attribute [instance] und138
instance inf138 : Inf Try.prog 138 (.nilFunc) 1 8 := ⟨by kernel_rfl⟩
@[reducible] def und139 := @Und.mk Try.prog 139 _ Try.underlying139
attribute [instance] und139
instance inf139 : Inf Try.prog 139 (.nilFunc) 1 8 := ⟨by kernel_rfl⟩
@[reducible] def und140 := @Und.mk Try.prog 140 _ Try.underlying140
attribute [instance] und140
instance inf140 : Inf Try.prog 140 (.nilFunc) 1 8 := ⟨by kernel_rfl⟩
@[reducible] def und141 := @Und.mk Try.prog 141 _ Try.underlying141
attribute [instance] und141
instance inf141 : Inf Try.prog 141 (.nilFunc) 1 8 := ⟨by kernel_rfl⟩
@[reducible] def und142 := @Und.mk Try.prog 142 _ Try.underlying142
attribute [instance] und142
instance inf142 : Inf Try.prog 142 (.nilFunc) 1 8 := ⟨by kernel_rfl⟩
@[reducible] def und143 := @Und.mk Try.prog 143 _ Try.underlying143
attribute [instance] und143
instance inf143 : Inf Try.prog 143 (.int .i64 (0)) 1 8 := ⟨by kernel_rfl⟩
@[reducible] def und145 := @Und.mk Try.prog 145 _ Try.underlying145
attribute [instance] und145
instance inf145 : Inf Try.prog 145 (.nilFunc) 1 8 := ⟨by kernel_rfl⟩
@[reducible] def und146 := @Und.mk Try.prog 146 _ Try.underlying146
attribute [instance] und146
instance inf146 : Inf Try.prog 146 (.nilFunc) 1 8 := ⟨by kernel_rfl⟩
@[reducible] def und147 := @Und.mk Try.prog 147 _ Try.underlying147
attribute [instance] und147
instance inf147 : Inf Try.prog 147 (.nilFunc) 1 8 := ⟨by kernel_rfl⟩
@[reducible] def und149 := @Und.mk Try.prog 149 _ Try.underlying149
attribute [instance] und149
instance inf149 : Inf Try.prog 149 (.nilFunc) 1 8 := ⟨by kernel_rfl⟩
@[reducible] def und150 := @Und.mk Try.prog 150 _ Try.underlying150
attribute [instance] und150
instance inf150 : Inf Try.prog 150 (.nilFunc) 1 8 := ⟨by kernel_rfl⟩
@[reducible] def und151 := @Und.mk Try.prog 151 _ Try.underlying151
attribute [instance] und151
instance inf151 : Inf Try.prog 151 (.int .u32 (0)) 1 4 := ⟨by kernel_rfl⟩
@[reducible] def und152 := @Und.mk Try.prog 152 _ Try.underlying152
attribute [instance] und152
instance inf152 : Inf Try.prog 152 (.nilFunc) 1 8 := ⟨by kernel_rfl⟩
@[reducible] def und153 := @Und.mk Try.prog 153 _ Try.underlying153
attribute [instance] und153
instance inf153 : Inf Try.prog 153 (.int .u64 (0)) 1 8 := ⟨by kernel_rfl⟩
@[reducible] def und154 := @Und.mk Try.prog 154 _ Try.underlying154
attribute [instance] und154
instance inf154 : Inf Try.prog 154 (.nilFunc) 1 8 := ⟨by kernel_rfl⟩
@[reducible] def und156 := @Und.mk Try.prog 156 _ Try.underlying156
attribute [instance] und156
instance inf156 : Inf Try.prog 156 (.nilFunc) 1 8 := ⟨by kernel_rfl⟩
@[reducible] def und157 := @Und.mk Try.prog 157 _ Try.underlying157
attribute [instance] und157
instance inf157 : Inf Try.prog 157 (.nilFunc) 1 8 := ⟨by kernel_rfl⟩
@[reducible] def und158 := @Und.mk Try.prog 158 _ Try.underlying158
attribute [instance] und158
instance inf158 : Inf Try.prog 158 (.nilFunc) 1 8 := ⟨by kernel_rfl⟩
@[reducible] def und159 := @Und.mk Try.prog 159 _ Try.underlying159
attribute [instance] und159
instance inf159 : Inf Try.prog 159 (.nilFunc) 1 8 := ⟨by kernel_rfl⟩
@[reducible] def und160 := @Und.mk Try.prog 160 _ Try.underlying160
attribute [instance] und160
instance inf160 : Inf Try.prog 160 (.slice none 0 0) 1 24 := ⟨by kernel_rfl⟩
@[reducible] def und161 := @Und.mk Try.prog 161 _ Try.underlying161
attribute [instance] und161
instance inf161 : Inf Try.prog 161 (.nilFunc) 1 8 := ⟨by kernel_rfl⟩
@[reducible] def und162 := @Und.mk Try.prog 162 _ Try.underlying162
attribute [instance] und162
instance inf162 : Inf Try.prog 162 (.nilFunc) 1 8 := ⟨by kernel_rfl⟩
@[reducible] def und164 := @Und.mk Try.prog 164 _ Try.underlying164
attribute [instance] und164
instance inf164 : Inf Try.prog 164 (.nilFunc) 1 8 := ⟨by kernel_rfl⟩
@[reducible] def und166 := @Und.mk Try.prog 166 _ Try.underlying166
attribute [instance] und166
instance inf166 : Inf Try.prog 166 (.nilFunc) 1 8 := ⟨by kernel_rfl⟩
@[reducible] def und167 := @Und.mk Try.prog 167 _ Try.underlying167
attribute [instance] und167
instance inf167 : Inf Try.prog 167 (.nilFunc) 1 8 := ⟨by kernel_rfl⟩
@[reducible] def und168 := @Und.mk Try.prog 168 _ Try.underlying168
attribute [instance] und168
instance inf168 : Inf Try.prog 168 (.nilFunc) 1 8 := ⟨by kernel_rfl⟩
@[reducible] def und169 := @Und.mk Try.prog 169 _ Try.underlying169
attribute [instance] und169
instance inf169 : Inf Try.prog 169 (.int .u64 (0)) 1 8 := ⟨by kernel_rfl⟩
@[reducible] def und170 := @Und.mk Try.prog 170 _ Try.underlying170
attribute [instance] und170
instance inf170 : Inf Try.prog 170 (.nilFunc) 1 8 := ⟨by kernel_rfl⟩
@[reducible] def und171 := @Und.mk Try.prog 171 _ Try.underlying171
attribute [instance] und171
instance inf171 : Inf Try.prog 171 (.nilFunc) 1 8 := ⟨by kernel_rfl⟩
@[reducible] def und172 := @Und.mk Try.prog 172 _ Try.underlying172
attribute [instance] und172
instance inf172 : Inf Try.prog 172 (.nilFunc) 1 8 := ⟨by kernel_rfl⟩
@[reducible] def und173 := @Und.mk Try.prog 173 _ Try.underlying173
attribute [instance] und173
instance inf173 : Inf Try.prog 173 (.pointer none) 1 8 := ⟨by kernel_rfl⟩
@[reducible] def und174 := @Und.mk Try.prog 174 _ Try.underlying174
attribute [instance] und174
instance inf174 : Inf Try.prog 174 (.nilFunc) 1 8 := ⟨by kernel_rfl⟩
@[reducible] def und175 := @Und.mk Try.prog 175 _ Try.underlying175
attribute [instance] und175
instance inf175 : Inf Try.prog 175 (.nilFunc) 1 8 := ⟨by kernel_rfl⟩
@[reducible] def und176 := @Und.mk Try.prog 176 _ Try.underlying176
attribute [instance] und176
instance inf176 : Inf Try.prog 176 (.nilFunc) 1 8 := ⟨by kernel_rfl⟩
@[reducible] def und177 := @Und.mk Try.prog 177 _ Try.underlying177
attribute [instance] und177
instance inf177 : Inf Try.prog 177 (.agg #[.slice none 0 0, .slice none 0 0, .bool false]) 3 56 := ⟨by kernel_rfl⟩
@[reducible] def und178 := @Und.mk Try.prog 178 _ Try.underlying178
attribute [instance] und178
instance inf178 : Inf Try.prog 178 (.agg #[.slice none 0 0, .slice none 0 0, .bool false]) 3 56 := ⟨by kernel_rfl⟩
@[reducible] def und179 := @Und.mk Try.prog 179 _ Try.underlying179
attribute [instance] und179
instance inf179 : Inf Try.prog 179 (.nilFunc) 1 8 := ⟨by kernel_rfl⟩
@[reducible] def und180 := @Und.mk Try.prog 180 _ Try.underlying180
attribute [instance] und180
instance inf180 : Inf Try.prog 180 (.nilFunc) 1 8 := ⟨by kernel_rfl⟩
@[reducible] def und181 := @Und.mk Try.prog 181 _ Try.underlying181
attribute [instance] und181
instance inf181 : Inf Try.prog 181 (.nilFunc) 1 8 := ⟨by kernel_rfl⟩
@[reducible] def und182 := @Und.mk Try.prog 182 _ Try.underlying182
attribute [instance] und182
instance inf182 : Inf Try.prog 182 (.slice none 0 0) 1 24 := ⟨by kernel_rfl⟩
@[reducible] def und183 := @Und.mk Try.prog 183 _ Try.underlying183
attribute [instance] und183
instance inf183 : Inf Try.prog 183 (.nilFunc) 1 8 := ⟨by kernel_rfl⟩
@[reducible] def und184 := @Und.mk Try.prog 184 _ Try.underlying184
attribute [instance] und184
instance inf184 : Inf Try.prog 184 (.pointer none) 1 8 := ⟨by kernel_rfl⟩
@[reducible] def und185 := @Und.mk Try.prog 185 _ Try.underlying185
attribute [instance] und185
instance inf185 : Inf Try.prog 185 (.agg #[.slice none 0 0, .slice none 0 0, .bool false]) 3 56 := ⟨by kernel_rfl⟩
@[reducible] def und186 := @Und.mk Try.prog 186 _ Try.underlying186
attribute [instance] und186
instance inf186 : Inf Try.prog 186 (.agg #[.slice none 0 0, .slice none 0 0, .bool false]) 3 56 := ⟨by kernel_rfl⟩
@[reducible] def und187 := @Und.mk Try.prog 187 _ Try.underlying187
attribute [instance] und187
instance inf187 : Inf Try.prog 187 (.nilFunc) 1 8 := ⟨by kernel_rfl⟩
@[reducible] def und188 := @Und.mk Try.prog 188 _ Try.underlying188
attribute [instance] und188
instance inf188 : Inf Try.prog 188 (.map none) 1 8 := ⟨by kernel_rfl⟩
@[reducible] def und190 := @Und.mk Try.prog 190 _ Try.underlying190
attribute [instance] und190
instance inf190 : Inf Try.prog 190 (.nilFunc) 1 8 := ⟨by kernel_rfl⟩
@[reducible] def und191 := @Und.mk Try.prog 191 _ Try.underlying191
attribute [instance] und191
instance inf191 : Inf Try.prog 191 (.nilFunc) 1 8 := ⟨by kernel_rfl⟩
@[reducible] def und192 := @Und.mk Try.prog 192 _ Try.underlying192
attribute [instance] und192
instance inf192 : Inf Try.prog 192 (.nilFunc) 1 8 := ⟨by kernel_rfl⟩
@[reducible] def und193 := @Und.mk Try.prog 193 _ Try.underlying193
attribute [instance] und193
instance inf193 : Inf Try.prog 193 (.nilFunc) 1 8 := ⟨by kernel_rfl⟩
@[reducible] def und194 := @Und.mk Try.prog 194 _ Try.underlying194
attribute [instance] und194
instance inf194 : Inf Try.prog 194 (.nilFunc) 1 8 := ⟨by kernel_rfl⟩
@[reducible] def und195 := @Und.mk Try.prog 195 _ Try.underlying195
attribute [instance] und195
instance inf195 : Inf Try.prog 195 (.nilFunc) 1 8 := ⟨by kernel_rfl⟩
@[reducible] def und196 := @Und.mk Try.prog 196 _ Try.underlying196
attribute [instance] und196
instance inf196 : Inf Try.prog 196 (.pointer none) 1 8 := ⟨by kernel_rfl⟩
@[reducible] def und198 := @Und.mk Try.prog 198 _ Try.underlying198
attribute [instance] und198
instance inf198 : Inf Try.prog 198 (.nilFunc) 1 8 := ⟨by kernel_rfl⟩
@[reducible] def und199 := @Und.mk Try.prog 199 _ Try.underlying199
attribute [instance] und199
instance inf199 : Inf Try.prog 199 (.nilFunc) 1 8 := ⟨by kernel_rfl⟩
@[reducible] def und201 := @Und.mk Try.prog 201 _ Try.underlying201
attribute [instance] und201
instance inf201 : Inf Try.prog 201 (.nilFunc) 1 8 := ⟨by kernel_rfl⟩
@[reducible] def und202 := @Und.mk Try.prog 202 _ Try.underlying202
attribute [instance] und202
instance inf202 : Inf Try.prog 202 (.nilFunc) 1 8 := ⟨by kernel_rfl⟩
@[reducible] def und203 := @Und.mk Try.prog 203 _ Try.underlying203
attribute [instance] und203
instance inf203 : Inf Try.prog 203 (.nilFunc) 1 8 := ⟨by kernel_rfl⟩
@[reducible] def und204 := @Und.mk Try.prog 204 _ Try.underlying204
attribute [instance] und204
instance inf204 : Inf Try.prog 204 (.nilFunc) 1 8 := ⟨by kernel_rfl⟩
@[reducible] def und205 := @Und.mk Try.prog 205 _ Try.underlying205
attribute [instance] und205
instance inf205 : Inf Try.prog 205 (.nilFunc) 1 8 := ⟨by kernel_rfl⟩
@[reducible] def und206 := @Und.mk Try.prog 206 _ Try.underlying206
attribute [instance] und206
instance inf206 : Inf Try.prog 206 (.nilFunc) 1 8 := ⟨by kernel_rfl⟩
@[reducible] def und207 := @Und.mk Try.prog 207 _ Try.underlying207
attribute [instance] und207
instance inf207 : Inf Try.prog 207 (.nilFunc) 1 8 := ⟨by kernel_rfl⟩
@[reducible] def und208 := @Und.mk Try.prog 208 _ Try.underlying208
attribute [instance] und208
instance inf208 : Inf Try.prog 208 (.nilFunc) 1 8 := ⟨by kernel_rfl⟩
@[reducible] def und209 := @Und.mk Try.prog 209 _ Try.underlying209
attribute [instance] und209
instance inf209 : Inf Try.prog 209 (.nilFunc) 1 8 := ⟨by kernel_rfl⟩
@[reducible] def und210 := @Und.mk Try.prog 210 _ Try.underlying210
attribute [instance] und210
instance inf210 : Inf Try.prog 210 (.agg #[.int .i64 (0), .int .i64 (0)]) 2 16 := ⟨by kernel_rfl⟩
@[reducible] def und211 := @Und.mk Try.prog 211 _ Try.underlying211
attribute [instance] und211
instance inf211 : Inf Try.prog 211 (.slice none 0 0) 1 24 := ⟨by kernel_rfl⟩
@[reducible] def und212 := @Und.mk Try.prog 212 _ Try.underlying212
attribute [instance] und212
instance inf212 : Inf Try.prog 212 (.nilFunc) 1 8 := ⟨by kernel_rfl⟩
@[reducible] def und213 := @Und.mk Try.prog 213 _ Try.underlying213
attribute [instance] und213
instance inf213 : Inf Try.prog 213 (.nilFunc) 1 8 := ⟨by kernel_rfl⟩
@[reducible] def und214 := @Und.mk Try.prog 214 _ Try.underlying214
attribute [instance] und214
instance inf214 : Inf Try.prog 214 (.agg #[.pointer none, .pointer none, .pointer none, .string .empty]) 4 40 := ⟨by kernel_rfl⟩
@[reducible] def und215 := @Und.mk Try.prog 215 _ Try.underlying215
attribute [instance] und215
instance inf215 : Inf Try.prog 215 (.agg #[.pointer none, .pointer none, .pointer none, .string .empty]) 4 40 := ⟨by kernel_rfl⟩
@[reducible] def und216 := @Und.mk Try.prog 216 _ Try.underlying216
attribute [instance] und216
instance inf216 : Inf Try.prog 216 (.agg #[]) 0 0 := ⟨by kernel_rfl⟩
@[reducible] def und217 := @Und.mk Try.prog 217 _ Try.underlying217
attribute [instance] und217
instance inf217 : Inf Try.prog 217 (.agg #[]) 0 0 := ⟨by kernel_rfl⟩
@[reducible] def und218 := @Und.mk Try.prog 218 _ Try.underlying218
attribute [instance] und218
instance inf218 : Inf Try.prog 218 (.agg #[]) 0 0 := ⟨by kernel_rfl⟩
@[reducible] def und219 := @Und.mk Try.prog 219 _ Try.underlying219
attribute [instance] und219
instance inf219 : Inf Try.prog 219 (.nilFunc) 1 8 := ⟨by kernel_rfl⟩
@[reducible] def und220 := @Und.mk Try.prog 220 _ Try.underlying220
attribute [instance] und220
instance inf220 : Inf Try.prog 220 (.int .u8 (0)) 1 1 := ⟨by kernel_rfl⟩
@[reducible] def und221 := @Und.mk Try.prog 221 _ Try.underlying221
attribute [instance] und221
instance inf221 : Inf Try.prog 221 (.int .u8 (0)) 1 1 := ⟨by kernel_rfl⟩
@[reducible] def und222 := @Und.mk Try.prog 222 _ Try.underlying222
attribute [instance] und222
instance inf222 : Inf Try.prog 222 (.nilFunc) 1 8 := ⟨by kernel_rfl⟩
@[reducible] def und223 := @Und.mk Try.prog 223 _ Try.underlying223
attribute [instance] und223
instance inf223 : Inf Try.prog 223 (.pointer none) 1 8 := ⟨by kernel_rfl⟩
@[reducible] def und224 := @Und.mk Try.prog 224 _ Try.underlying224
attribute [instance] und224
instance inf224 : Inf Try.prog 224 (.int .i32 (0)) 1 4 := ⟨by kernel_rfl⟩
@[reducible] def und225 := @Und.mk Try.prog 225 _ Try.underlying225
attribute [instance] und225
instance inf225 : Inf Try.prog 225 (.int .i32 (0)) 1 4 := ⟨by kernel_rfl⟩
@[reducible] def und226 := @Und.mk Try.prog 226 _ Try.underlying226
attribute [instance] und226
instance inf226 : Inf Try.prog 226 (.agg #[.int .u64 (0), .int .u64 (0), .int .u32 (0), .int .u8 (0), .int .u8 (0), .int .u8 (0), .int .u8 (0), .nilFunc, .pointer none, .int .i32 (0), .int .i32 (0)]) 11 48 := ⟨by kernel_rfl⟩
@[reducible] def und227 := @Und.mk Try.prog 227 _ Try.underlying227
attribute [instance] und227
instance inf227 : Inf Try.prog 227 (.agg #[.int .u64 (0), .int .u64 (0), .int .u32 (0), .int .u8 (0), .int .u8 (0), .int .u8 (0), .int .u8 (0), .nilFunc, .pointer none, .int .i32 (0), .int .i32 (0)]) 11 48 := ⟨by kernel_rfl⟩
@[reducible] def und228 := @Und.mk Try.prog 228 _ Try.underlying228
attribute [instance] und228
instance inf228 : Inf Try.prog 228 (.pointer none) 1 8 := ⟨by kernel_rfl⟩
instance fnc2 : Fnc Try.prog 2 := ⟨_, Try.func2, by kernel_rfl, rfl⟩
instance fnc3 : Fnc Try.prog 3 := ⟨_, Try.func3, by kernel_rfl, rfl⟩
instance fnc4 : Fnc Try.prog 4 := ⟨_, Try.func4, by kernel_rfl, rfl⟩
instance fnc5 : Fnc Try.prog 5 := ⟨_, Try.func5, by kernel_rfl, rfl⟩
instance fnc6 : Fnc Try.prog 6 := ⟨_, Try.func6, by kernel_rfl, rfl⟩
instance fnc7 : Fnc Try.prog 7 := ⟨_, Try.func7, by kernel_rfl, rfl⟩
instance fnc8 : Fnc Try.prog 8 := ⟨_, Try.func8, by kernel_rfl, rfl⟩
instance fnc9 : Fnc Try.prog 9 := ⟨_, Try.func9, by kernel_rfl, rfl⟩
instance fnc10 : Fnc Try.prog 10 := ⟨_, Try.func10, by kernel_rfl, rfl⟩
instance fnc11 : Fnc Try.prog 11 := ⟨_, Try.func11, by kernel_rfl, rfl⟩
instance fnc12 : Fnc Try.prog 12 := ⟨_, Try.func12, by kernel_rfl, rfl⟩
instance fnc13 : Fnc Try.prog 13 := ⟨_, Try.func13, by kernel_rfl, rfl⟩
instance fnc14 : Fnc Try.prog 14 := ⟨_, Try.func14, by kernel_rfl, rfl⟩
instance fnc15 : Fnc Try.prog 15 := ⟨_, Try.func15, by kernel_rfl, rfl⟩
instance fnc16 : Fnc Try.prog 16 := ⟨_, Try.func16, by kernel_rfl, rfl⟩
instance fnc17 : Fnc Try.prog 17 := ⟨_, Try.func17, by kernel_rfl, rfl⟩
instance fnc18 : Fnc Try.prog 18 := ⟨_, Try.func18, by kernel_rfl, rfl⟩
instance fnc19 : Fnc Try.prog 19 := ⟨_, Try.func19, by kernel_rfl, rfl⟩
instance fnc20 : Fnc Try.prog 20 := ⟨_, Try.func20, by kernel_rfl, rfl⟩
instance fnc21 : Fnc Try.prog 21 := ⟨_, Try.func21, by kernel_rfl, rfl⟩
instance fnc22 : Fnc Try.prog 22 := ⟨_, Try.func22, by kernel_rfl, rfl⟩
instance fnc23 : Fnc Try.prog 23 := ⟨_, Try.func23, by kernel_rfl, rfl⟩
instance fnc24 : Fnc Try.prog 24 := ⟨_, Try.func24, by kernel_rfl, rfl⟩
instance fnc25 : Fnc Try.prog 25 := ⟨_, Try.func25, by kernel_rfl, rfl⟩
instance fnc26 : Fnc Try.prog 26 := ⟨_, Try.func26, by kernel_rfl, rfl⟩
instance fnc27 : Fnc Try.prog 27 := ⟨_, Try.func27, by kernel_rfl, rfl⟩
instance fnc28 : Fnc Try.prog 28 := ⟨_, Try.func28, by kernel_rfl, rfl⟩
instance fnc29 : Fnc Try.prog 29 := ⟨_, Try.func29, by kernel_rfl, rfl⟩
instance fnc30 : Fnc Try.prog 30 := ⟨_, Try.func30, by kernel_rfl, rfl⟩
instance fnc31 : Fnc Try.prog 31 := ⟨_, Try.func31, by kernel_rfl, rfl⟩
instance fnc32 : Fnc Try.prog 32 := ⟨_, Try.func32, by kernel_rfl, rfl⟩
instance fnc33 : Fnc Try.prog 33 := ⟨_, Try.func33, by kernel_rfl, rfl⟩
instance fnc34 : Fnc Try.prog 34 := ⟨_, Try.func34, by kernel_rfl, rfl⟩
instance fnc35 : Fnc Try.prog 35 := ⟨_, Try.func35, by kernel_rfl, rfl⟩
instance fnc36 : Fnc Try.prog 36 := ⟨_, Try.func36, by kernel_rfl, rfl⟩
instance fnc37 : Fnc Try.prog 37 := ⟨_, Try.func37, by kernel_rfl, rfl⟩
instance fnc38 : Fnc Try.prog 38 := ⟨_, Try.func38, by kernel_rfl, rfl⟩
instance fnc39 : Fnc Try.prog 39 := ⟨_, Try.func39, by kernel_rfl, rfl⟩
instance fnc40 : Fnc Try.prog 40 := ⟨_, Try.func40, by kernel_rfl, rfl⟩
instance fnc41 : Fnc Try.prog 41 := ⟨_, Try.func41, by kernel_rfl, rfl⟩
instance fnc42 : Fnc Try.prog 42 := ⟨_, Try.func42, by kernel_rfl, rfl⟩
instance fnc43 : Fnc Try.prog 43 := ⟨_, Try.func43, by kernel_rfl, rfl⟩
instance fnc44 : Fnc Try.prog 44 := ⟨_, Try.func44, by kernel_rfl, rfl⟩
instance fnc45 : Fnc Try.prog 45 := ⟨_, Try.func45, by kernel_rfl, rfl⟩
instance fnc46 : Fnc Try.prog 46 := ⟨_, Try.func46, by kernel_rfl, rfl⟩
instance fnc47 : Fnc Try.prog 47 := ⟨_, Try.func47, by kernel_rfl, rfl⟩
instance fnc48 : Fnc Try.prog 48 := ⟨_, Try.func48, by kernel_rfl, rfl⟩
instance fnc49 : Fnc Try.prog 49 := ⟨_, Try.func49, by kernel_rfl, rfl⟩
instance fnc50 : Fnc Try.prog 50 := ⟨_, Try.func50, by kernel_rfl, rfl⟩
instance fnc51 : Fnc Try.prog 51 := ⟨_, Try.func51, by kernel_rfl, rfl⟩
instance fnc52 : Fnc Try.prog 52 := ⟨_, Try.func52, by kernel_rfl, rfl⟩
instance fnc53 : Fnc Try.prog 53 := ⟨_, Try.func53, by kernel_rfl, rfl⟩
instance fnc54 : Fnc Try.prog 54 := ⟨_, Try.func54, by kernel_rfl, rfl⟩
instance fnc55 : Fnc Try.prog 55 := ⟨_, Try.func55, by kernel_rfl, rfl⟩
instance fnc56 : Fnc Try.prog 56 := ⟨_, Try.func56, by kernel_rfl, rfl⟩
instance fnc57 : Fnc Try.prog 57 := ⟨_, Try.func57, by kernel_rfl, rfl⟩
instance fnc58 : Fnc Try.prog 58 := ⟨_, Try.func58, by kernel_rfl, rfl⟩
instance fnc59 : Fnc Try.prog 59 := ⟨_, Try.func59, by kernel_rfl, rfl⟩
instance fnc60 : Fnc Try.prog 60 := ⟨_, Try.func60, by kernel_rfl, rfl⟩
instance fnc61 : Fnc Try.prog 61 := ⟨_, Try.func61, by kernel_rfl, rfl⟩
instance fnc62 : Fnc Try.prog 62 := ⟨_, Try.func62, by kernel_rfl, rfl⟩
instance fnc63 : Fnc Try.prog 63 := ⟨_, Try.func63, by kernel_rfl, rfl⟩
instance fnc64 : Fnc Try.prog 64 := ⟨_, Try.func64, by kernel_rfl, rfl⟩
instance fnc65 : Fnc Try.prog 65 := ⟨_, Try.func65, by kernel_rfl, rfl⟩
instance fnc66 : Fnc Try.prog 66 := ⟨_, Try.func66, by kernel_rfl, rfl⟩
instance fnc67 : Fnc Try.prog 67 := ⟨_, Try.func67, by kernel_rfl, rfl⟩
instance fnc68 : Fnc Try.prog 68 := ⟨_, Try.func68, by kernel_rfl, rfl⟩
instance fnc69 : Fnc Try.prog 69 := ⟨_, Try.func69, by kernel_rfl, rfl⟩
instance fnc70 : Fnc Try.prog 70 := ⟨_, Try.func70, by kernel_rfl, rfl⟩
instance fnc71 : Fnc Try.prog 71 := ⟨_, Try.func71, by kernel_rfl, rfl⟩
instance fnc72 : Fnc Try.prog 72 := ⟨_, Try.func72, by kernel_rfl, rfl⟩
instance fnc73 : Fnc Try.prog 73 := ⟨_, Try.func73, by kernel_rfl, rfl⟩
instance fnc74 : Fnc Try.prog 74 := ⟨_, Try.func74, by kernel_rfl, rfl⟩
instance fnc75 : Fnc Try.prog 75 := ⟨_, Try.func75, by kernel_rfl, rfl⟩
instance fnc76 : Fnc Try.prog 76 := ⟨_, Try.func76, by kernel_rfl, rfl⟩
instance fnc77 : Fnc Try.prog 77 := ⟨_, Try.func77, by kernel_rfl, rfl⟩
instance fnc78 : Fnc Try.prog 78 := ⟨_, Try.func78, by kernel_rfl, rfl⟩
instance fnc79 : Fnc Try.prog 79 := ⟨_, Try.func79, by kernel_rfl, rfl⟩
instance fnc80 : Fnc Try.prog 80 := ⟨_, Try.func80, by kernel_rfl, rfl⟩
instance fnc81 : Fnc Try.prog 81 := ⟨_, Try.func81, by kernel_rfl, rfl⟩
instance fnc82 : Fnc Try.prog 82 := ⟨_, Try.func82, by kernel_rfl, rfl⟩
instance fnc83 : Fnc Try.prog 83 := ⟨_, Try.func83, by kernel_rfl, rfl⟩
instance fnc84 : Fnc Try.prog 84 := ⟨_, Try.func84, by kernel_rfl, rfl⟩
instance fnc85 : Fnc Try.prog 85 := ⟨_, Try.func85, by kernel_rfl, rfl⟩
instance fnc86 : Fnc Try.prog 86 := ⟨_, Try.func86, by kernel_rfl, rfl⟩
instance fnc87 : Fnc Try.prog 87 := ⟨_, Try.func87, by kernel_rfl, rfl⟩
instance fnc88 : Fnc Try.prog 88 := ⟨_, Try.func88, by kernel_rfl, rfl⟩
instance fnc89 : Fnc Try.prog 89 := ⟨_, Try.func89, by kernel_rfl, rfl⟩
instance fnc90 : Fnc Try.prog 90 := ⟨_, Try.func90, by kernel_rfl, rfl⟩
instance fnc91 : Fnc Try.prog 91 := ⟨_, Try.func91, by kernel_rfl, rfl⟩
instance fnc92 : Fnc Try.prog 92 := ⟨_, Try.func92, by kernel_rfl, rfl⟩
instance fnc93 : Fnc Try.prog 93 := ⟨_, Try.func93, by kernel_rfl, rfl⟩
instance fnc94 : Fnc Try.prog 94 := ⟨_, Try.func94, by kernel_rfl, rfl⟩
instance fnc95 : Fnc Try.prog 95 := ⟨_, Try.func95, by kernel_rfl, rfl⟩
instance fnc96 : Fnc Try.prog 96 := ⟨_, Try.func96, by kernel_rfl, rfl⟩
instance fnc97 : Fnc Try.prog 97 := ⟨_, Try.func97, by kernel_rfl, rfl⟩
instance fnc98 : Fnc Try.prog 98 := ⟨_, Try.func98, by kernel_rfl, rfl⟩
instance fnc99 : Fnc Try.prog 99 := ⟨_, Try.func99, by kernel_rfl, rfl⟩
instance fnc100 : Fnc Try.prog 100 := ⟨_, Try.func100, by kernel_rfl, rfl⟩
instance fnc101 : Fnc Try.prog 101 := ⟨_, Try.func101, by kernel_rfl, rfl⟩
instance fnc102 : Fnc Try.prog 102 := ⟨_, Try.func102, by kernel_rfl, rfl⟩
instance fnc103 : Fnc Try.prog 103 := ⟨_, Try.func103, by kernel_rfl, rfl⟩
instance fnc104 : Fnc Try.prog 104 := ⟨_, Try.func104, by kernel_rfl, rfl⟩
instance fnc105 : Fnc Try.prog 105 := ⟨_, Try.func105, by kernel_rfl, rfl⟩
instance fnc106 : Fnc Try.prog 106 := ⟨_, Try.func106, by kernel_rfl, rfl⟩
instance fnc107 : Fnc Try.prog 107 := ⟨_, Try.func107, by kernel_rfl, rfl⟩
instance fnc108 : Fnc Try.prog 108 := ⟨_, Try.func108, by kernel_rfl, rfl⟩
instance fnc109 : Fnc Try.prog 109 := ⟨_, Try.func109, by kernel_rfl, rfl⟩
instance fnc110 : Fnc Try.prog 110 := ⟨_, Try.func110, by kernel_rfl, rfl⟩
instance fnc111 : Fnc Try.prog 111 := ⟨_, Try.func111, by kernel_rfl, rfl⟩
instance fnc112 : Fnc Try.prog 112 := ⟨_, Try.func112, by kernel_rfl, rfl⟩
instance fnc113 : Fnc Try.prog 113 := ⟨_, Try.func113, by kernel_rfl, rfl⟩
instance fnc114 : Fnc Try.prog 114 := ⟨_, Try.func114, by kernel_rfl, rfl⟩
instance fnc115 : Fnc Try.prog 115 := ⟨_, Try.func115, by kernel_rfl, rfl⟩
instance fnc116 : Fnc Try.prog 116 := ⟨_, Try.func116, by kernel_rfl, rfl⟩
instance fnc117 : Fnc Try.prog 117 := ⟨_, Try.func117, by kernel_rfl, rfl⟩
instance fnc118 : Fnc Try.prog 118 := ⟨_, Try.func118, by kernel_rfl, rfl⟩
instance fnc119 : Fnc Try.prog 119 := ⟨_, Try.func119, by kernel_rfl, rfl⟩
instance fnc120 : Fnc Try.prog 120 := ⟨_, Try.func120, by kernel_rfl, rfl⟩
instance fnc121 : Fnc Try.prog 121 := ⟨_, Try.func121, by kernel_rfl, rfl⟩
instance fnc122 : Fnc Try.prog 122 := ⟨_, Try.func122, by kernel_rfl, rfl⟩
instance fnc123 : Fnc Try.prog 123 := ⟨_, Try.func123, by kernel_rfl, rfl⟩
instance fnc124 : Fnc Try.prog 124 := ⟨_, Try.func124, by kernel_rfl, rfl⟩
instance fnc125 : Fnc Try.prog 125 := ⟨_, Try.func125, by kernel_rfl, rfl⟩
instance fnc126 : Fnc Try.prog 126 := ⟨_, Try.func126, by kernel_rfl, rfl⟩
instance fnc127 : Fnc Try.prog 127 := ⟨_, Try.func127, by kernel_rfl, rfl⟩
instance fnc128 : Fnc Try.prog 128 := ⟨_, Try.func128, by kernel_rfl, rfl⟩
instance fnc129 : Fnc Try.prog 129 := ⟨_, Try.func129, by kernel_rfl, rfl⟩
instance fnc130 : Fnc Try.prog 130 := ⟨_, Try.func130, by kernel_rfl, rfl⟩
instance fnc131 : Fnc Try.prog 131 := ⟨_, Try.func131, by kernel_rfl, rfl⟩
instance fnc132 : Fnc Try.prog 132 := ⟨_, Try.func132, by kernel_rfl, rfl⟩
instance fnc133 : Fnc Try.prog 133 := ⟨_, Try.func133, by kernel_rfl, rfl⟩
instance fnc134 : Fnc Try.prog 134 := ⟨_, Try.func134, by kernel_rfl, rfl⟩
instance fnc135 : Fnc Try.prog 135 := ⟨_, Try.func135, by kernel_rfl, rfl⟩
instance fnc136 : Fnc Try.prog 136 := ⟨_, Try.func136, by kernel_rfl, rfl⟩
instance fnc137 : Fnc Try.prog 137 := ⟨_, Try.func137, by kernel_rfl, rfl⟩
instance fnc138 : Fnc Try.prog 138 := ⟨_, Try.func138, by kernel_rfl, rfl⟩
instance fnc139 : Fnc Try.prog 139 := ⟨_, Try.func139, by kernel_rfl, rfl⟩
instance fnc140 : Fnc Try.prog 140 := ⟨_, Try.func140, by kernel_rfl, rfl⟩
instance fnc141 : Fnc Try.prog 141 := ⟨_, Try.func141, by kernel_rfl, rfl⟩
instance fnc142 : Fnc Try.prog 142 := ⟨_, Try.func142, by kernel_rfl, rfl⟩
instance fnc143 : Fnc Try.prog 143 := ⟨_, Try.func143, by kernel_rfl, rfl⟩
instance fnc144 : Fnc Try.prog 144 := ⟨_, Try.func144, by kernel_rfl, rfl⟩
instance fnc145 : Fnc Try.prog 145 := ⟨_, Try.func145, by kernel_rfl, rfl⟩
instance fnc146 : Fnc Try.prog 146 := ⟨_, Try.func146, by kernel_rfl, rfl⟩
instance fnc147 : Fnc Try.prog 147 := ⟨_, Try.func147, by kernel_rfl, rfl⟩
instance fnc148 : Fnc Try.prog 148 := ⟨_, Try.func148, by kernel_rfl, rfl⟩
instance fnc149 : Fnc Try.prog 149 := ⟨_, Try.func149, by kernel_rfl, rfl⟩
instance fnc150 : Fnc Try.prog 150 := ⟨_, Try.func150, by kernel_rfl, rfl⟩
instance fnc151 : Fnc Try.prog 151 := ⟨_, Try.func151, by kernel_rfl, rfl⟩
instance fnc152 : Fnc Try.prog 152 := ⟨_, Try.func152, by kernel_rfl, rfl⟩
instance fnc153 : Fnc Try.prog 153 := ⟨_, Try.func153, by kernel_rfl, rfl⟩
instance fnc154 : Fnc Try.prog 154 := ⟨_, Try.func154, by kernel_rfl, rfl⟩
instance fnc155 : Fnc Try.prog 155 := ⟨_, Try.func155, by kernel_rfl, rfl⟩
instance fnc156 : Fnc Try.prog 156 := ⟨_, Try.func156, by kernel_rfl, rfl⟩
instance fnc157 : Fnc Try.prog 157 := ⟨_, Try.func157, by kernel_rfl, rfl⟩
instance fnc158 : Fnc Try.prog 158 := ⟨_, Try.func158, by kernel_rfl, rfl⟩
instance fnc159 : Fnc Try.prog 159 := ⟨_, Try.func159, by kernel_rfl, rfl⟩
instance fnc160 : Fnc Try.prog 160 := ⟨_, Try.func160, by kernel_rfl, rfl⟩
instance fnc161 : Fnc Try.prog 161 := ⟨_, Try.func161, by kernel_rfl, rfl⟩
instance fnc162 : Fnc Try.prog 162 := ⟨_, Try.func162, by kernel_rfl, rfl⟩
instance fnc163 : Fnc Try.prog 163 := ⟨_, Try.func163, by kernel_rfl, rfl⟩
instance fnc164 : Fnc Try.prog 164 := ⟨_, Try.func164, by kernel_rfl, rfl⟩
instance fnc165 : Fnc Try.prog 165 := ⟨_, Try.func165, by kernel_rfl, rfl⟩
instance fnc166 : Fnc Try.prog 166 := ⟨_, Try.func166, by kernel_rfl, rfl⟩
instance fnc167 : Fnc Try.prog 167 := ⟨_, Try.func167, by kernel_rfl, rfl⟩
instance fnc168 : Fnc Try.prog 168 := ⟨_, Try.func168, by kernel_rfl, rfl⟩
instance fnc169 : Fnc Try.prog 169 := ⟨_, Try.func169, by kernel_rfl, rfl⟩
instance fnc170 : Fnc Try.prog 170 := ⟨_, Try.func170, by kernel_rfl, rfl⟩
instance fnc171 : Fnc Try.prog 171 := ⟨_, Try.func171, by kernel_rfl, rfl⟩
instance fnc172 : Fnc Try.prog 172 := ⟨_, Try.func172, by kernel_rfl, rfl⟩
instance fnc173 : Fnc Try.prog 173 := ⟨_, Try.func173, by kernel_rfl, rfl⟩
instance fnc174 : Fnc Try.prog 174 := ⟨_, Try.func174, by kernel_rfl, rfl⟩
instance fnc175 : Fnc Try.prog 175 := ⟨_, Try.func175, by kernel_rfl, rfl⟩
instance fnc176 : Fnc Try.prog 176 := ⟨_, Try.func176, by kernel_rfl, rfl⟩
instance fnc177 : Fnc Try.prog 177 := ⟨_, Try.func177, by kernel_rfl, rfl⟩
instance fnc178 : Fnc Try.prog 178 := ⟨_, Try.func178, by kernel_rfl, rfl⟩
instance fnc179 : Fnc Try.prog 179 := ⟨_, Try.func179, by kernel_rfl, rfl⟩
instance fnc180 : Fnc Try.prog 180 := ⟨_, Try.func180, by kernel_rfl, rfl⟩
instance fnc181 : Fnc Try.prog 181 := ⟨_, Try.func181, by kernel_rfl, rfl⟩
instance fnc182 : Fnc Try.prog 182 := ⟨_, Try.func182, by kernel_rfl, rfl⟩
instance fnc183 : Fnc Try.prog 183 := ⟨_, Try.func183, by kernel_rfl, rfl⟩
instance fnc184 : Fnc Try.prog 184 := ⟨_, Try.func184, by kernel_rfl, rfl⟩
instance fnc185 : Fnc Try.prog 185 := ⟨_, Try.func185, by kernel_rfl, rfl⟩
instance fnc186 : Fnc Try.prog 186 := ⟨_, Try.func186, by kernel_rfl, rfl⟩
instance fnc187 : Fnc Try.prog 187 := ⟨_, Try.func187, by kernel_rfl, rfl⟩
instance fnc188 : Fnc Try.prog 188 := ⟨_, Try.func188, by kernel_rfl, rfl⟩
instance fnc189 : Fnc Try.prog 189 := ⟨_, Try.func189, by kernel_rfl, rfl⟩
instance fnc190 : Fnc Try.prog 190 := ⟨_, Try.func190, by kernel_rfl, rfl⟩
instance fnc191 : Fnc Try.prog 191 := ⟨_, Try.func191, by kernel_rfl, rfl⟩
instance fnc192 : Fnc Try.prog 192 := ⟨_, Try.func192, by kernel_rfl, rfl⟩
instance fnc193 : Fnc Try.prog 193 := ⟨_, Try.func193, by kernel_rfl, rfl⟩
instance fnc194 : Fnc Try.prog 194 := ⟨_, Try.func194, by kernel_rfl, rfl⟩
instance fnc195 : Fnc Try.prog 195 := ⟨_, Try.func195, by kernel_rfl, rfl⟩
instance fnc196 : Fnc Try.prog 196 := ⟨_, Try.func196, by kernel_rfl, rfl⟩
instance fnc197 : Fnc Try.prog 197 := ⟨_, Try.func197, by kernel_rfl, rfl⟩
instance fnc198 : Fnc Try.prog 198 := ⟨_, Try.func198, by kernel_rfl, rfl⟩
instance fnc199 : Fnc Try.prog 199 := ⟨_, Try.func199, by kernel_rfl, rfl⟩
instance fnc200 : Fnc Try.prog 200 := ⟨_, Try.func200, by kernel_rfl, rfl⟩
instance fnc201 : Fnc Try.prog 201 := ⟨_, Try.func201, by kernel_rfl, rfl⟩
instance fnc202 : Fnc Try.prog 202 := ⟨_, Try.func202, by kernel_rfl, rfl⟩
instance fnc203 : Fnc Try.prog 203 := ⟨_, Try.func203, by kernel_rfl, rfl⟩
instance fnc204 : Fnc Try.prog 204 := ⟨_, Try.func204, by kernel_rfl, rfl⟩
instance fnc205 : Fnc Try.prog 205 := ⟨_, Try.func205, by kernel_rfl, rfl⟩
instance fnc206 : Fnc Try.prog 206 := ⟨_, Try.func206, by kernel_rfl, rfl⟩
instance fnc207 : Fnc Try.prog 207 := ⟨_, Try.func207, by kernel_rfl, rfl⟩
instance fnc208 : Fnc Try.prog 208 := ⟨_, Try.func208, by kernel_rfl, rfl⟩
instance fnc209 : Fnc Try.prog 209 := ⟨_, Try.func209, by kernel_rfl, rfl⟩
instance fnc210 : Fnc Try.prog 210 := ⟨_, Try.func210, by kernel_rfl, rfl⟩
instance fnc211 : Fnc Try.prog 211 := ⟨_, Try.func211, by kernel_rfl, rfl⟩
instance fnc212 : Fnc Try.prog 212 := ⟨_, Try.func212, by kernel_rfl, rfl⟩
instance fnc213 : Fnc Try.prog 213 := ⟨_, Try.func213, by kernel_rfl, rfl⟩
instance fnc214 : Fnc Try.prog 214 := ⟨_, Try.func214, by kernel_rfl, rfl⟩
instance fnc215 : Fnc Try.prog 215 := ⟨_, Try.func215, by kernel_rfl, rfl⟩
instance fnc216 : Fnc Try.prog 216 := ⟨_, Try.func216, by kernel_rfl, rfl⟩
instance fnc217 : Fnc Try.prog 217 := ⟨_, Try.func217, by kernel_rfl, rfl⟩
instance fnc218 : Fnc Try.prog 218 := ⟨_, Try.func218, by kernel_rfl, rfl⟩
instance fnc219 : Fnc Try.prog 219 := ⟨_, Try.func219, by kernel_rfl, rfl⟩
instance fnc220 : Fnc Try.prog 220 := ⟨_, Try.func220, by kernel_rfl, rfl⟩
instance fnc221 : Fnc Try.prog 221 := ⟨_, Try.func221, by kernel_rfl, rfl⟩
instance fnc222 : Fnc Try.prog 222 := ⟨_, Try.func222, by kernel_rfl, rfl⟩
instance fnc223 : Fnc Try.prog 223 := ⟨_, Try.func223, by kernel_rfl, rfl⟩
instance fnc224 : Fnc Try.prog 224 := ⟨_, Try.func224, by kernel_rfl, rfl⟩
instance fnc225 : Fnc Try.prog 225 := ⟨_, Try.func225, by kernel_rfl, rfl⟩
instance fnc226 : Fnc Try.prog 226 := ⟨_, Try.func226, by kernel_rfl, rfl⟩
instance fnc227 : Fnc Try.prog 227 := ⟨_, Try.func227, by kernel_rfl, rfl⟩
instance fnc228 : Fnc Try.prog 228 := ⟨_, Try.func228, by kernel_rfl, rfl⟩
instance fnc229 : Fnc Try.prog 229 := ⟨_, Try.func229, by kernel_rfl, rfl⟩
instance fnc230 : Fnc Try.prog 230 := ⟨_, Try.func230, by kernel_rfl, rfl⟩
instance fnc231 : Fnc Try.prog 231 := ⟨_, Try.func231, by kernel_rfl, rfl⟩
instance fnc232 : Fnc Try.prog 232 := ⟨_, Try.func232, by kernel_rfl, rfl⟩
instance fnc233 : Fnc Try.prog 233 := ⟨_, Try.func233, by kernel_rfl, rfl⟩
instance fnc234 : Fnc Try.prog 234 := ⟨_, Try.func234, by kernel_rfl, rfl⟩
instance fnc235 : Fnc Try.prog 235 := ⟨_, Try.func235, by kernel_rfl, rfl⟩
instance fnc236 : Fnc Try.prog 236 := ⟨_, Try.func236, by kernel_rfl, rfl⟩
instance fnc237 : Fnc Try.prog 237 := ⟨_, Try.func237, by kernel_rfl, rfl⟩
instance fnc238 : Fnc Try.prog 238 := ⟨_, Try.func238, by kernel_rfl, rfl⟩
instance fnc239 : Fnc Try.prog 239 := ⟨_, Try.func239, by kernel_rfl, rfl⟩
end Go.Proofs.Ytgobjpcankaicaa.Vc
