/-
  The rows of the program's tables, as instances of the calculus. Conditions: none. Printed by a program.
-/
import Derived.Test.YtpdhjnacnmfbjaaOps
import Derived.Test.YtpdhjnacnmfbjaaProg
import Derived.KernelRfl
namespace Go.Proofs.Ytpdhjnacnmfbjaa.Vc
@[reducible] def und1 := @Und.mk Try.prog 1 _ Try.underlying1
attribute [instance] und1
instance inf1 : Inf Try.prog 1 (.nilFunc) 1 8 := ⟨by kernel_rfl⟩
@[reducible] def und2 := @Und.mk Try.prog 2 _ Try.underlying2
attribute [instance] und2
instance inf2 : Inf Try.prog 2 (.int .i64 (0)) 1 8 := ⟨by kernel_rfl⟩
@[reducible] def und3 := @Und.mk Try.prog 3 _ Try.underlying3
attribute [instance] und3
instance inf3 : Inf Try.prog 3 (.int .i64 (0)) 1 8 := ⟨by kernel_rfl⟩
@[reducible] def und4 := @Und.mk Try.prog 4 _ Try.underlying4
attribute [instance] und4
instance inf4 : Inf Try.prog 4 (.bool false) 1 1 := ⟨by kernel_rfl⟩
@[reducible] def und5 := @Und.mk Try.prog 5 _ Try.underlying5
attribute [instance] und5
instance inf5 : Inf Try.prog 5 (.int .u8 (0)) 1 1 := ⟨by kernel_rfl⟩
@[reducible] def und6 := @Und.mk Try.prog 6 _ Try.underlying6
attribute [instance] und6
instance inf6 : Inf Try.prog 6 (.int .u8 (0)) 1 1 := ⟨by kernel_rfl⟩
@[reducible] def und7 := @Und.mk Try.prog 7 _ Try.underlying7
attribute [instance] und7
instance inf7 : Inf Try.prog 7 (.agg #[.int .i64 (0), .int .i64 (0), .bool false, .int .u8 (0)]) 4 24 := ⟨by kernel_rfl⟩
@[reducible] def und8 := @Und.mk Try.prog 8 _ Try.underlying8
attribute [instance] und8
instance inf8 : Inf Try.prog 8 (.agg #[.int .i64 (0), .int .i64 (0), .bool false, .int .u8 (0)]) 4 24 := ⟨by kernel_rfl⟩
@[reducible] def und9 := @Und.mk Try.prog 9 _ Try.underlying9
attribute [instance] und9
instance inf9 : Inf Try.prog 9 (.string .empty) 1 16 := ⟨by kernel_rfl⟩
@[reducible] def und10 := @Und.mk Try.prog 10 _ Try.underlying10
attribute [instance] und10
instance inf10 : Inf Try.prog 10 (.string .empty) 1 16 := ⟨by kernel_rfl⟩
@[reducible] def und11 := @Und.mk Try.prog 11 _ Try.underlying11
attribute [instance] und11
instance inf11 : Inf Try.prog 11 (.string .empty) 1 16 := ⟨by kernel_rfl⟩
@[reducible] def und12 := @Und.mk Try.prog 12 _ Try.underlying12
attribute [instance] und12
instance inf12 : Inf Try.prog 12 (.int .u64 (0)) 1 8 := ⟨by kernel_rfl⟩
@[reducible] def und13 := @Und.mk Try.prog 13 _ Try.underlying13
attribute [instance] und13
instance inf13 : Inf Try.prog 13 (.agg #[.string .empty, .int .u64 (0)]) 2 24 := ⟨by kernel_rfl⟩
@[reducible] def und14 := @Und.mk Try.prog 14 _ Try.underlying14
attribute [instance] und14
instance inf14 : Inf Try.prog 14 (.agg #[.string .empty, .int .u64 (0)]) 2 24 := ⟨by kernel_rfl⟩
@[reducible] def und15 := @Und.mk Try.prog 15 _ Try.underlying15
attribute [instance] und15
instance inf15 : Inf Try.prog 15 (.pointer none) 1 8 := ⟨by kernel_rfl⟩
@[reducible] def und16 := @Und.mk Try.prog 16 _ Try.underlying16
attribute [instance] und16
instance inf16 : Inf Try.prog 16 (.pointer none) 1 8 := ⟨by kernel_rfl⟩
@[reducible] def und17 := @Und.mk Try.prog 17 _ Try.underlying17
attribute [instance] und17
instance inf17 : Inf Try.prog 17 (.pointer none) 1 8 := ⟨by kernel_rfl⟩
@[reducible] def und18 := @Und.mk Try.prog 18 _ Try.underlying18
attribute [instance] und18
instance inf18 : Inf Try.prog 18 (.agg #[.pointer none]) 1 8 := ⟨by kernel_rfl⟩
@[reducible] def und19 := @Und.mk Try.prog 19 _ Try.underlying19
attribute [instance] und19
instance inf19 : Inf Try.prog 19 (.agg #[.pointer none]) 1 8 := ⟨by kernel_rfl⟩
@[reducible] def und20 := @Und.mk Try.prog 20 _ Try.underlying20
attribute [instance] und20
instance inf20 : Inf Try.prog 20 (.nilIface) 1 16 := ⟨by kernel_rfl⟩
@[reducible] def und21 := @Und.mk Try.prog 21 _ Try.underlying21
attribute [instance] und21
instance inf21 : Inf Try.prog 21 (.int .i32 (0)) 1 4 := ⟨by kernel_rfl⟩
@[reducible] def und23 := @Und.mk Try.prog 23 _ Try.underlying23
attribute [instance] und23
instance inf23 : Inf Try.prog 23 (.nilFunc) 1 8 := ⟨by kernel_rfl⟩
@[reducible] def und24 := @Und.mk Try.prog 24 _ Try.underlying24
attribute [instance] und24
instance inf24 : Inf Try.prog 24 (.nilFunc) 1 8 := ⟨by kernel_rfl⟩
@[reducible] def und25 := @Und.mk Try.prog 25 _ Try.underlying25
attribute [instance] und25
instance inf25 : Inf Try.prog 25 (.slice none 0 0) 1 24 := ⟨by kernel_rfl⟩
@[reducible] def und26 := @Und.mk Try.prog 26 _ Try.underlying26
attribute [instance] und26
instance inf26 : Inf Try.prog 26 (.agg #[.slice none 0 0]) 1 24 := ⟨by kernel_rfl⟩
@[reducible] def und27 := @Und.mk Try.prog 27 _ Try.underlying27
attribute [instance] und27
instance inf27 : Inf Try.prog 27 (.agg #[.slice none 0 0]) 1 24 := ⟨by kernel_rfl⟩
@[reducible] def und28 := @Und.mk Try.prog 28 _ Try.underlying28
attribute [instance] und28
instance inf28 : Inf Try.prog 28 (.agg #[.slice none 0 0, .slice none 0 0]) 2 48 := ⟨by kernel_rfl⟩
@[reducible] def und29 := @Und.mk Try.prog 29 _ Try.underlying29
attribute [instance] und29
instance inf29 : Inf Try.prog 29 (.agg #[.slice none 0 0, .slice none 0 0]) 2 48 := ⟨by kernel_rfl⟩
@[reducible] def und30 := @Und.mk Try.prog 30 _ Try.underlying30
attribute [instance] und30
instance inf30 : Inf Try.prog 30 (.nilFunc) 1 8 := ⟨by kernel_rfl⟩
@[reducible] def und31 := @Und.mk Try.prog 31 _ Try.underlying31
attribute [instance] und31
instance inf31 : Inf Try.prog 31 (.nilFunc) 1 8 := ⟨by kernel_rfl⟩
@[reducible] def und32 := @Und.mk Try.prog 32 _ Try.underlying32
attribute [instance] und32
instance inf32 : Inf Try.prog 32 (.agg #[.slice none 0 0]) 1 24 := ⟨by kernel_rfl⟩
@[reducible] def und33 := @Und.mk Try.prog 33 _ Try.underlying33
attribute [instance] und33
instance inf33 : Inf Try.prog 33 (.agg #[.slice none 0 0, .slice none 0 0]) 2 48 := ⟨by kernel_rfl⟩
@[reducible] def und34 := @Und.mk Try.prog 34 _ Try.underlying34
attribute [instance] und34
instance inf34 : Inf Try.prog 34 (.agg #[.slice none 0 0, .slice none 0 0]) 2 48 := ⟨by kernel_rfl⟩
@[reducible] def und35 := @Und.mk Try.prog 35 _ Try.underlying35
attribute [instance] und35
instance inf35 : Inf Try.prog 35 (.nilFunc) 1 8 := ⟨by kernel_rfl⟩
@[reducible] def und36 := @Und.mk Try.prog 36 _ Try.underlying36
attribute [instance] und36
instance inf36 : Inf Try.prog 36 (.nilFunc) 1 8 := ⟨by kernel_rfl⟩
@[reducible] def und37 := @Und.mk Try.prog 37 _ Try.underlying37
attribute [instance] und37
instance inf37 : Inf Try.prog 37 (.nilFunc) 1 8 := ⟨by kernel_rfl⟩
@[reducible] def und38 := @Und.mk Try.prog 38 _ Try.underlying38
attribute [instance] und38
instance inf38 : Inf Try.prog 38 (.nilFunc) 1 8 := ⟨by kernel_rfl⟩
@[reducible] def und39 := @Und.mk Try.prog 39 _ Try.underlying39
attribute [instance] und39
instance inf39 : Inf Try.prog 39 (.slice none 0 0) 1 24 := ⟨by kernel_rfl⟩
@[reducible] def und41 := @Und.mk Try.prog 41 _ Try.underlying41
attribute [instance] und41
instance inf41 : Inf Try.prog 41 (.nilFunc) 1 8 := ⟨by kernel_rfl⟩
@[reducible] def und42 := @Und.mk Try.prog 42 _ Try.underlying42
attribute [instance] und42
instance inf42 : Inf Try.prog 42 (.nilFunc) 1 8 := ⟨by kernel_rfl⟩
@[reducible] def und43 := @Und.mk Try.prog 43 _ Try.underlying43
attribute [instance] und43
instance inf43 : Inf Try.prog 43 (.nilFunc) 1 8 := ⟨by kernel_rfl⟩
@[reducible] def und44 := @Und.mk Try.prog 44 _ Try.underlying44
attribute [instance] und44
instance inf44 : Inf Try.prog 44 (.nilFunc) 1 8 := ⟨by kernel_rfl⟩
@[reducible] def und45 := @Und.mk Try.prog 45 _ Try.underlying45
attribute [instance] und45
instance inf45 : Inf Try.prog 45 (.nilFunc) 1 8 := ⟨by kernel_rfl⟩
@[reducible] def und46 := @Und.mk Try.prog 46 _ Try.underlying46
attribute [instance] und46
instance inf46 : Inf Try.prog 46 (.nilFunc) 1 8 := ⟨by kernel_rfl⟩
@[reducible] def und47 := @Und.mk Try.prog 47 _ Try.underlying47
attribute [instance] und47
instance inf47 : Inf Try.prog 47 (.nilFunc) 1 8 := ⟨by kernel_rfl⟩
@[reducible] def und48 := @Und.mk Try.prog 48 _ Try.underlying48
attribute [instance] und48
instance inf48 : Inf Try.prog 48 (.nilFunc) 1 8 := ⟨by kernel_rfl⟩
@[reducible] def und49 := @Und.mk Try.prog 49 _ Try.underlying49
attribute [instance] und49
instance inf49 : Inf Try.prog 49 (.nilFunc) 1 8 := ⟨by kernel_rfl⟩
@[reducible] def und50 := @Und.mk Try.prog 50 _ Try.underlying50
attribute [instance] und50
instance inf50 : Inf Try.prog 50 (.nilFunc) 1 8 := ⟨by kernel_rfl⟩
@[reducible] def und51 := @Und.mk Try.prog 51 _ Try.underlying51
attribute [instance] und51
instance inf51 : Inf Try.prog 51 (.nilFunc) 1 8 := ⟨by kernel_rfl⟩
@[reducible] def und52 := @Und.mk Try.prog 52 _ Try.underlying52
attribute [instance] und52
instance inf52 : Inf Try.prog 52 (.nilFunc) 1 8 := ⟨by kernel_rfl⟩
@[reducible] def und54 := @Und.mk Try.prog 54 _ Try.underlying54
attribute [instance] und54
instance inf54 : Inf Try.prog 54 (.nilFunc) 1 8 := ⟨by kernel_rfl⟩
@[reducible] def und55 := @Und.mk Try.prog 55 _ Try.underlying55
attribute [instance] und55
instance inf55 : Inf Try.prog 55 (.nilFunc) 1 8 := ⟨by kernel_rfl⟩
@[reducible] def und56 := @Und.mk Try.prog 56 _ Try.underlying56
attribute [instance] und56
instance inf56 : Inf Try.prog 56 (.nilFunc) 1 8 := ⟨by kernel_rfl⟩
@[reducible] def und57 := @Und.mk Try.prog 57 _ Try.underlying57
attribute [instance] und57
instance inf57 : Inf Try.prog 57 (.nilFunc) 1 8 := ⟨by kernel_rfl⟩
@[reducible] def und58 := @Und.mk Try.prog 58 _ Try.underlying58
attribute [instance] und58
instance inf58 : Inf Try.prog 58 (.nilFunc) 1 8 := ⟨by kernel_rfl⟩
@[reducible] def und59 := @Und.mk Try.prog 59 _ Try.underlying59
attribute [instance] und59
instance inf59 : Inf Try.prog 59 (.slice none 0 0) 1 24 := ⟨by kernel_rfl⟩
@[reducible] def und60 := @Und.mk Try.prog 60 _ Try.underlying60
attribute [instance] und60
instance inf60 : Inf Try.prog 60 (.nilFunc) 1 8 := ⟨by kernel_rfl⟩
@[reducible] def und61 := @Und.mk Try.prog 61 _ Try.underlying61
attribute [instance] und61
instance inf61 : Inf Try.prog 61 (.nilFunc) 1 8 := ⟨by kernel_rfl⟩
@[reducible] def und62 := @Und.mk Try.prog 62 _ Try.underlying62
attribute [instance] und62
instance inf62 : Inf Try.prog 62 (.nilFunc) 1 8 := ⟨by kernel_rfl⟩
@[reducible] def und63 := @Und.mk Try.prog 63 _ Try.underlying63
attribute [instance] und63
instance inf63 : Inf Try.prog 63 (.nilFunc) 1 8 := ⟨by kernel_rfl⟩
@[reducible] def und64 := @Und.mk Try.prog 64 _ Try.underlying64
attribute [instance] und64
instance inf64 : Inf Try.prog 64 (.nilFunc) 1 8 := ⟨by kernel_rfl⟩
@[reducible] def und65 := @Und.mk Try.prog 65 _ Try.underlying65
attribute [instance] und65
instance inf65 : Inf Try.prog 65 (.nilFunc) 1 8 := ⟨by kernel_rfl⟩
@[reducible] def und66 := @Und.mk Try.prog 66 _ Try.underlying66
attribute [instance] und66
instance inf66 : Inf Try.prog 66 (.nilFunc) 1 8 := ⟨by kernel_rfl⟩
@[reducible] def und67 := @Und.mk Try.prog 67 _ Try.underlying67
attribute [instance] und67
instance inf67 : Inf Try.prog 67 (.nilFunc) 1 8 := ⟨by kernel_rfl⟩
@[reducible] def und68 := @Und.mk Try.prog 68 _ Try.underlying68
attribute [instance] und68
instance inf68 : Inf Try.prog 68 (.nilFunc) 1 8 := ⟨by kernel_rfl⟩
@[reducible] def und69 := @Und.mk Try.prog 69 _ Try.underlying69
attribute [instance] und69
instance inf69 : Inf Try.prog 69 (.nilFunc) 1 8 := ⟨by kernel_rfl⟩
@[reducible] def und70 := @Und.mk Try.prog 70 _ Try.underlying70
attribute [instance] und70
instance inf70 : Inf Try.prog 70 (.nilFunc) 1 8 := ⟨by kernel_rfl⟩
@[reducible] def und71 := @Und.mk Try.prog 71 _ Try.underlying71
attribute [instance] und71
instance inf71 : Inf Try.prog 71 (.nilFunc) 1 8 := ⟨by kernel_rfl⟩
@[reducible] def und72 := @Und.mk Try.prog 72 _ Try.underlying72
attribute [instance] und72
instance inf72 : Inf Try.prog 72 (.nilFunc) 1 8 := ⟨by kernel_rfl⟩
@[reducible] def und73 := @Und.mk Try.prog 73 _ Try.underlying73
attribute [instance] und73
instance inf73 : Inf Try.prog 73 (.nilFunc) 1 8 := ⟨by kernel_rfl⟩
@[reducible] def und74 := @Und.mk Try.prog 74 _ Try.underlying74
attribute [instance] und74
instance inf74 : Inf Try.prog 74 (.nilFunc) 1 8 := ⟨by kernel_rfl⟩
@[reducible] def und75 := @Und.mk Try.prog 75 _ Try.underlying75
attribute [instance] und75
instance inf75 : Inf Try.prog 75 (.nilFunc) 1 8 := ⟨by kernel_rfl⟩
@[reducible] def und76 := @Und.mk Try.prog 76 _ Try.underlying76
attribute [instance] und76
instance inf76 : Inf Try.prog 76 (.nilFunc) 1 8 := ⟨by kernel_rfl⟩
@[reducible] def und77 := @Und.mk Try.prog 77 _ Try.underlying77
attribute [instance] und77
instance inf77 : Inf Try.prog 77 (.nilFunc) 1 8 := ⟨by kernel_rfl⟩
@[reducible] def und78 := @Und.mk Try.prog 78 _ Try.underlying78
attribute [instance] und78
instance inf78 : Inf Try.prog 78 (.nilFunc) 1 8 := ⟨by kernel_rfl⟩
@[reducible] def und79 := @Und.mk Try.prog 79 _ Try.underlying79
attribute [instance] und79
instance inf79 : Inf Try.prog 79 (.nilFunc) 1 8 := ⟨by kernel_rfl⟩
@[reducible] def und80 := @Und.mk Try.prog 80 _ Try.underlying80
attribute [instance] und80
instance inf80 : Inf Try.prog 80 (.pointer none) 1 8 := ⟨by kernel_rfl⟩
@[reducible] def und81 := @Und.mk Try.prog 81 _ Try.underlying81
attribute [instance] und81
instance inf81 : Inf Try.prog 81 (.agg #[.slice none 0 0, .int .i64 (0), .int .i64 (0), .slice none 0 0]) 4 64 := ⟨by kernel_rfl⟩
@[reducible] def und82 := @Und.mk Try.prog 82 _ Try.underlying82
attribute [instance] und82
instance inf82 : Inf Try.prog 82 (.agg #[.slice none 0 0, .int .i64 (0), .int .i64 (0), .slice none 0 0]) 4 64 := ⟨by kernel_rfl⟩
@[reducible] def und83 := @Und.mk Try.prog 83 _ Try.underlying83
attribute [instance] und83
instance inf83 : Inf Try.prog 83 (.nilFunc) 1 8 := ⟨by kernel_rfl⟩
@[reducible] def und84 := @Und.mk Try.prog 84 _ Try.underlying84
attribute [instance] und84
instance inf84 : Inf Try.prog 84 (.nilFunc) 1 8 := ⟨by kernel_rfl⟩
@[reducible] def und85 := @Und.mk Try.prog 85 _ Try.underlying85
attribute [instance] und85
instance inf85 : Inf Try.prog 85 (.nilFunc) 1 8 := ⟨by kernel_rfl⟩
@[reducible] def und86 := @Und.mk Try.prog 86 _ Try.underlying86
attribute [instance] und86
instance inf86 : Inf Try.prog 86 (.slice none 0 0) 1 24 := ⟨by kernel_rfl⟩
@[reducible] def und87 := @Und.mk Try.prog 87 _ Try.underlying87
attribute [instance] und87
instance inf87 : Inf Try.prog 87 (.nilFunc) 1 8 := ⟨by kernel_rfl⟩
@[reducible] def und88 := @Und.mk Try.prog 88 _ Try.underlying88
attribute [instance] und88
instance inf88 : Inf Try.prog 88 (.nilFunc) 1 8 := ⟨by kernel_rfl⟩
@[reducible] def und89 := @Und.mk Try.prog 89 _ Try.underlying89
attribute [instance] und89
instance inf89 : Inf Try.prog 89 (.nilFunc) 1 8 := ⟨by kernel_rfl⟩
@[reducible] def und90 := @Und.mk Try.prog 90 _ Try.underlying90
attribute [instance] und90
instance inf90 : Inf Try.prog 90 (.nilFunc) 1 8 := ⟨by kernel_rfl⟩
@[reducible] def und91 := @Und.mk Try.prog 91 _ Try.underlying91
attribute [instance] und91
instance inf91 : Inf Try.prog 91 (.pointer none) 1 8 := ⟨by kernel_rfl⟩
@[reducible] def und92 := @Und.mk Try.prog 92 _ Try.underlying92
attribute [instance] und92
instance inf92 : Inf Try.prog 92 (.nilFunc) 1 8 := ⟨by kernel_rfl⟩
@[reducible] def und93 := @Und.mk Try.prog 93 _ Try.underlying93
attribute [instance] und93
instance inf93 : Inf Try.prog 93 (.nilFunc) 1 8 := ⟨by kernel_rfl⟩
@[reducible] def und94 := @Und.mk Try.prog 94 _ Try.underlying94
attribute [instance] und94
instance inf94 : Inf Try.prog 94 (.nilFunc) 1 8 := ⟨by kernel_rfl⟩
@[reducible] def und95 := @Und.mk Try.prog 95 _ Try.underlying95
attribute [instance] und95
instance inf95 : Inf Try.prog 95 (.nilFunc) 1 8 := ⟨by kernel_rfl⟩
@[reducible] def und96 := @Und.mk Try.prog 96 _ Try.underlying96
attribute [instance] und96
instance inf96 : Inf Try.prog 96 (.nilFunc) 1 8 := ⟨by kernel_rfl⟩
@[reducible] def und97 := @Und.mk Try.prog 97 _ Try.underlying97
attribute [instance] und97
instance inf97 : Inf Try.prog 97 (.int .u64 (0)) 1 8 := ⟨by kernel_rfl⟩
@[reducible] def und99 := @Und.mk Try.prog 99 _ Try.underlying99
attribute [instance] und99
instance inf99 : Inf Try.prog 99 (.nilFunc) 1 8 := ⟨by kernel_rfl⟩
@[reducible] def und100 := @Und.mk Try.prog 100 _ Try.underlying100
attribute [instance] und100
instance inf100 : Inf Try.prog 100 (.nilFunc) 1 8 := ⟨by kernel_rfl⟩
@[reducible] def und101 := @Und.mk Try.prog 101 _ Try.underlying101
attribute [instance] und101
instance inf101 : Inf Try.prog 101 (.nilFunc) 1 8 := ⟨by kernel_rfl⟩
@[reducible] def und102 := @Und.mk Try.prog 102 _ Try.underlying102
attribute [instance] und102
instance inf102 : Inf Try.prog 102 (.nilFunc) 1 8 := ⟨by kernel_rfl⟩
@[reducible] def und103 := @Und.mk Try.prog 103 _ Try.underlying103
attribute [instance] und103
instance inf103 : Inf Try.prog 103 (.nilFunc) 1 8 := ⟨by kernel_rfl⟩
@[reducible] def und104 := @Und.mk Try.prog 104 _ Try.underlying104
attribute [instance] und104
instance inf104 : Inf Try.prog 104 (.nilFunc) 1 8 := ⟨by kernel_rfl⟩
@[reducible] def und105 := @Und.mk Try.prog 105 _ Try.underlying105
attribute [instance] und105
instance inf105 : Inf Try.prog 105 (.nilFunc) 1 8 := ⟨by kernel_rfl⟩
@[reducible] def und106 := @Und.mk Try.prog 106 _ Try.underlying106
attribute [instance] und106
instance inf106 : Inf Try.prog 106 (.nilFunc) 1 8 := ⟨by kernel_rfl⟩
@[reducible] def und107 := @Und.mk Try.prog 107 _ Try.underlying107
attribute [instance] und107
instance inf107 : Inf Try.prog 107 (.nilFunc) 1 8 := ⟨by kernel_rfl⟩
@[reducible] def und108 := @Und.mk Try.prog 108 _ Try.underlying108
attribute [instance] und108
instance inf108 : Inf Try.prog 108 (.nilFunc) 1 8 := ⟨by kernel_rfl⟩
@[reducible] def und109 := @Und.mk Try.prog 109 _ Try.underlying109
attribute [instance] und109
instance inf109 : Inf Try.prog 109 (.nilFunc) 1 8 := ⟨by kernel_rfl⟩
@[reducible] def und110 := @Und.mk Try.prog 110 _ Try.underlying110
attribute [instance] und110
instance inf110 : Inf Try.prog 110 (.int .u32 (0)) 1 4 := ⟨by kernel_rfl⟩
@[reducible] def und112 := @Und.mk Try.prog 112 _ Try.underlying112
attribute [instance] und112
instance inf112 : Inf Try.prog 112 (.nilFunc) 1 8 := ⟨by kernel_rfl⟩
@[reducible] def und113 := @Und.mk Try.prog 113 _ Try.underlying113
attribute [instance] und113
instance inf113 : Inf Try.prog 113 (.int .u64 (0)) 1 8 := ⟨by kernel_rfl⟩
@[reducible] def und115 := @Und.mk Try.prog 115 _ Try.underlying115
attribute [instance] und115
instance inf115 : Inf Try.prog 115 (.nilFunc) 1 8 := ⟨by kernel_rfl⟩
@[reducible] def und116 := @Und.mk Try.prog 116 _ Try.underlying116
attribute [instance] und116
instance inf116 : Inf Try.prog 116 (.nilFunc) 1 8 := ⟨by kernel_rfl⟩
@[reducible] def und117 := @Und.mk Try.prog 117 _ Try.underlying117
attribute [instance] und117
instance inf117 : Inf Try.prog 117 (.int .i64 (0)) 1 8 := ⟨by kernel_rfl⟩
@[reducible] def und119 := @Und.mk Try.prog 119 _ Try.underlying119
attribute [instance] und119
instance inf119 : Inf Try.prog 119 (.nilFunc) 1 8 := ⟨by kernel_rfl⟩
@[reducible] def und120 := @Und.mk Try.prog 120 _ Try.underlying120
attribute [instance] und120
instance inf120 : Inf Try.prog 120 (.nilFunc) 1 8 := ⟨by kernel_rfl⟩
@[reducible] def und121 := @Und.mk Try.prog 121 _ Try.underlying121
attribute [instance] und121
instance inf121 : Inf Try.prog 121 (.nilFunc) 1 8 := ⟨by kernel_rfl⟩
@[reducible] def und123 := @Und.mk Try.prog 123 _ Try.underlying123
attribute [instance] und123
instance inf123 : Inf Try.prog 123 (.nilFunc) 1 8 := ⟨by kernel_rfl⟩
@[reducible] def und124 := @Und.mk Try.prog 124 _ Try.underlying124
attribute [instance] und124
instance inf124 : Inf Try.prog 124 (.nilFunc) 1 8 := ⟨by kernel_rfl⟩
@[reducible] def und125 := @Und.mk Try.prog 125 _ Try.underlying125
attribute [instance] und125
instance inf125 : Inf Try.prog 125 (.nilFunc) 1 8 := ⟨by kernel_rfl⟩
@[reducible] def und126 := @Und.mk Try.prog 126 _ Try.underlying126
attribute [instance] und126
instance inf126 : Inf Try.prog 126 (.nilFunc) 1 8 := ⟨by kernel_rfl⟩
@[reducible] def und127 := @Und.mk Try.prog 127 _ Try.underlying127
attribute [instance] und127
instance inf127 : Inf Try.prog 127 (.nilFunc) 1 8 := ⟨by kernel_rfl⟩
@[reducible] def und128 := @Und.mk Try.prog 128 _ Try.underlying128
attribute [instance] und128
instance inf128 : Inf Try.prog 128 (.nilFunc) 1 8 := ⟨by kernel_rfl⟩
@[reducible] def und129 := @Und.mk Try.prog 129 _ Try.underlying129
attribute [instance] und129
instance inf129 : Inf Try.prog 129 (.int .u64 (0)) 1 8 := ⟨by kernel_rfl⟩
@[reducible] def und130 := @Und.mk Try.prog 130 _ Try.underlying130
attribute [instance] und130
instance inf130 : Inf Try.prog 130 (.nilFunc) 1 8 := ⟨by kernel_rfl⟩
@[reducible] def und131 := @Und.mk Try.prog 131 _ Try.underlying131
attribute [instance] und131
instance inf131 : Inf Try.prog 131 (.nilFunc) 1 8 := ⟨by kernel_rfl⟩
@[reducible] def und132 := @Und.mk Try.prog 132 _ Try.underlying132
attribute [instance] und132
instance inf132 : Inf Try.prog 132 (.nilFunc) 1 8 := ⟨by kernel_rfl⟩
@[reducible] def und133 := @Und.mk Try.prog 133 _ Try.underlying133
attribute [instance] und133
instance inf133 : Inf Try.prog 133 (.pointer none) 1 8 := ⟨by kernel_rfl⟩
@[reducible] def und134 := @Und.mk Try.prog 134 _ Try.underlying134
attribute [instance] und134
instance inf134 : Inf Try.prog 134 (.nilFunc) 1 8 := ⟨by kernel_rfl⟩
@[reducible] def und135 := @Und.mk Try.prog 135 _ Try.underlying135
attribute [instance] und135
instance inf135 : Inf Try.prog 135 (.pointer none) 1 8 := ⟨by kernel_rfl⟩
@[reducible] def und137 := @Und.mk Try.prog 137 _ Try.underlying137
attribute [instance] und137
instance inf137 : Inf Try.prog 137 (.nilFunc) 1 8 := ⟨by kernel_rfl⟩
@[reducible] def und138 := @Und.mk Try.prog 138 _ Try.underlying138
attribute [instance] und138
instance inf138 : Inf Try.prog 138 (.nilFunc) 1 8 := ⟨by kernel_rfl⟩
@[reducible] def und139 := @Und.mk Try.prog 139 _ Try.underlying139
attribute [instance] und139
instance inf139 : Inf Try.prog 139 (.agg #[.pointer none, .pointer none, .pointer none, .string .empty]) 4 40 := ⟨by kernel_rfl⟩
@[reducible] def und140 := @Und.mk Try.prog 140 _ Try.underlying140
attribute [instance] und140
instance inf140 : Inf Try.prog 140 (.agg #[.pointer none, .pointer none, .pointer none, .string .empty]) 4 40 := ⟨by kernel_rfl⟩
@[reducible] def und141 := @Und.mk Try.prog 141 _ Try.underlying141
attribute [instance] und141
instance inf141 : Inf Try.prog 141 (.agg #[]) 0 0 := ⟨by kernel_rfl⟩
@[reducible] def und142 := @Und.mk Try.prog 142 _ Try.underlying142
attribute [instance] und142
instance inf142 : Inf Try.prog 142 (.agg #[]) 0 0 := ⟨by kernel_rfl⟩
@[reducible] def und143 := @Und.mk Try.prog 143 _ Try.underlying143
attribute [instance] und143
instance inf143 : Inf Try.prog 143 (.agg #[]) 0 0 := ⟨by kernel_rfl⟩
@[reducible] def und144 := @Und.mk Try.prog 144 _ Try.underlying144
attribute [instance] und144
instance inf144 : Inf Try.prog 144 (.nilFunc) 1 8 := ⟨by kernel_rfl⟩
@[reducible] def und145 := @Und.mk Try.prog 145 _ Try.underlying145
attribute [instance] und145
instance inf145 : Inf Try.prog 145 (.int .u8 (0)) 1 1 := ⟨by kernel_rfl⟩
@[reducible] def und146 := @Und.mk Try.prog 146 _ Try.underlying146
attribute [instance] und146
instance inf146 : Inf Try.prog 146 (.int .u8 (0)) 1 1 := ⟨by kernel_rfl⟩
@[reducible] def und147 := @Und.mk Try.prog 147 _ Try.underlying147
attribute [instance] und147
instance inf147 : Inf Try.prog 147 (.nilFunc) 1 8 := ⟨by kernel_rfl⟩
@[reducible] def und148 := @Und.mk Try.prog 148 _ Try.underlying148
attribute [instance] und148
instance inf148 : Inf Try.prog 148 (.pointer none) 1 8 := ⟨by kernel_rfl⟩
@[reducible] def und149 := @Und.mk Try.prog 149 _ Try.underlying149
attribute [instance] und149
instance inf149 : Inf Try.prog 149 (.int .i32 (0)) 1 4 := ⟨by kernel_rfl⟩
@[reducible] def und150 := @Und.mk Try.prog 150 _ Try.underlying150
attribute [instance] und150
instance inf150 : Inf Try.prog 150 (.int .i32 (0)) 1 4 := ⟨by kernel_rfl⟩
@[reducible] def und151 := @Und.mk Try.prog 151 _ Try.underlying151
attribute [instance] und151
instance inf151 : Inf Try.prog 151 (.agg #[.int .u64 (0), .int .u64 (0), .int .u32 (0), .int .u8 (0), .int .u8 (0), .int .u8 (0), .int .u8 (0), .nilFunc, .pointer none, .int .i32 (0), .int .i32 (0)]) 11 48 := ⟨by kernel_rfl⟩
@[reducible] def und152 := @Und.mk Try.prog 152 _ Try.underlying152
attribute [instance] und152
instance inf152 : Inf Try.prog 152 (.agg #[.int .u64 (0), .int .u64 (0), .int .u32 (0), .int .u8 (0), .int .u8 (0), .int .u8 (0), .int .u8 (0), .nilFunc, .pointer none, .int .i32 (0), .int .i32 (0)]) 11 48 := ⟨by kernel_rfl⟩
@[reducible] def und153 := @Und.mk Try.prog 153 _ Try.underlying153
attribute [instance] und153
instance inf153 : Inf Try.prog 153 (.pointer none) 1 8 := ⟨by kernel_rfl⟩
instance fnc2 : Fnc Try.prog 2 := ⟨_, Try.func2, by kernel_rfl, rfl⟩
instance fnc3 : Fnc Try.prog 3 := ⟨_, Try.func3, by kernel_rfl, rfl⟩
instance fnc4 : Fnc Try.prog 4 := ⟨_, Try.func4, by kernel_rfl, rfl⟩
instance fnc5 : Fnc Try.prog 5 := ⟨_, Try.func5, by kernel_rfl, rfl⟩
instance fnc6 : Fnc Try.prog 6 := ⟨_, Try.func6, by kernel_rfl, rfl⟩
instance fnc7 : Fnc Try.prog 7 := ⟨_, Try.func7, by kernel_rfl, rfl⟩
instance fnc8 : Fnc Try.prog 8 := ⟨_, Try.func8, by kernel_rfl, rfl⟩
instance fnc9 : Fnc Try.prog 9 := ⟨_, Try.func9, by kernel_rfl, rfl⟩
instance fnc10 : Fnc Try.prog 10 := ⟨_, Try.func10, by kernel_rfl, rfl⟩
instance fnc11 : Fnc Try.prog 11 := ⟨_, Try.func11, by kernel_rfl, rfl⟩
instance fnc12 : Fnc Try.prog 12 := ⟨_, Try.func12, by kernel_rfl, rfl⟩
instance fnc13 : Fnc Try.prog 13 := ⟨_, Try.func13, by kernel_rfl, rfl⟩
instance fnc14 : Fnc Try.prog 14 := ⟨_, Try.func14, by kernel_rfl, rfl⟩
instance fnc15 : Fnc Try.prog 15 := ⟨_, Try.func15, by kernel_rfl, rfl⟩
instance fnc16 : Fnc Try.prog 16 := ⟨_, Try.func16, by kernel_rfl, rfl⟩
instance fnc17 : Fnc Try.prog 17 := ⟨_, Try.func17, by kernel_rfl, rfl⟩
instance fnc18 : Fnc Try.prog 18 := ⟨_, Try.func18, by kernel_rfl, rfl⟩
instance fnc19 : Fnc Try.prog 19 := ⟨_, Try.func19, by kernel_rfl, rfl⟩
instance fnc20 : Fnc Try.prog 20 := ⟨_, Try.func20, by kernel_rfl, rfl⟩
instance fnc21 : Fnc Try.prog 21 := ⟨_, Try.func21, by kernel_rfl, rfl⟩
instance fnc22 : Fnc Try.prog 22 := ⟨_, Try.func22, by kernel_rfl, rfl⟩
instance fnc23 : Fnc Try.prog 23 := ⟨_, Try.func23, by kernel_rfl, rfl⟩
instance fnc24 : Fnc Try.prog 24 := ⟨_, Try.func24, by kernel_rfl, rfl⟩
instance fnc25 : Fnc Try.prog 25 := ⟨_, Try.func25, by kernel_rfl, rfl⟩
instance fnc26 : Fnc Try.prog 26 := ⟨_, Try.func26, by kernel_rfl, rfl⟩
instance fnc27 : Fnc Try.prog 27 := ⟨_, Try.func27, by kernel_rfl, rfl⟩
instance fnc28 : Fnc Try.prog 28 := ⟨_, Try.func28, by kernel_rfl, rfl⟩
instance fnc29 : Fnc Try.prog 29 := ⟨_, Try.func29, by kernel_rfl, rfl⟩
instance fnc30 : Fnc Try.prog 30 := ⟨_, Try.func30, by kernel_rfl, rfl⟩
instance fnc31 : Fnc Try.prog 31 := ⟨_, Try.func31, by kernel_rfl, rfl⟩
instance fnc32 : Fnc Try.prog 32 := ⟨_, Try.func32, by kernel_rfl, rfl⟩
instance fnc33 : Fnc Try.prog 33 := ⟨_, Try.func33, by kernel_rfl, rfl⟩
instance fnc34 : Fnc Try.prog 34 := ⟨_, Try.func34, by kernel_rfl, rfl⟩
instance fnc35 : Fnc Try.prog 35 := ⟨_, Try.func35, by kernel_rfl, rfl⟩
instance fnc36 : Fnc Try.prog 36 := ⟨_, Try.func36, by kernel_rfl, rfl⟩
instance fnc37 : Fnc Try.prog 37 := ⟨_, Try.func37, by kernel_rfl, rfl⟩
instance fnc38 : Fnc Try.prog 38 := ⟨_, Try.func38, by kernel_rfl, rfl⟩
instance fnc39 : Fnc Try.prog 39 := ⟨_, Try.func39, by kernel_rfl, rfl⟩
instance fnc40 : Fnc Try.prog 40 := ⟨_, Try.func40, by kernel_rfl, rfl⟩
instance fnc41 : Fnc Try.prog 41 := ⟨_, Try.func41, by kernel_rfl, rfl⟩
instance fnc42 : Fnc Try.prog 42 := ⟨_, Try.func42, by kernel_rfl, rfl⟩
instance fnc43 : Fnc Try.prog 43 := ⟨_, Try.func43, by kernel_rfl, rfl⟩
instance fnc44 : Fnc Try.prog 44 := ⟨_, Try.func44, by kernel_rfl, rfl⟩
instance fnc45 : Fnc Try.prog 45 := ⟨_, Try.func45, by kernel_rfl, rfl⟩
instance fnc46 : Fnc Try.prog 46 := ⟨_, Try.func46, by kernel_rfl, rfl⟩
instance fnc47 : Fnc Try.prog 47 := ⟨_, Try.func47, by kernel_rfl, rfl⟩
instance fnc48 : Fnc Try.prog 48 := ⟨_, Try.func48, by kernel_rfl, rfl⟩
instance fnc49 : Fnc Try.prog 49 := ⟨_, Try.func49, by kernel_rfl, rfl⟩
instance fnc50 : Fnc Try.prog 50 := ⟨_, Try.func50, by kernel_rfl, rfl⟩
instance fnc51 : Fnc Try.prog 51 := ⟨_, Try.func51, by kernel_rfl, rfl⟩
instance fnc52 : Fnc Try.prog 52 := ⟨_, Try.func52, by kernel_rfl, rfl⟩
instance fnc53 : Fnc Try.prog 53 := ⟨_, Try.func53, by kernel_rfl, rfl⟩
instance fnc54 : Fnc Try.prog 54 := ⟨_, Try.func54, by kernel_rfl, rfl⟩
instance fnc55 : Fnc Try.prog 55 := ⟨_, Try.func55, by kernel_rfl, rfl⟩
instance fnc56 : Fnc Try.prog 56 := ⟨_, Try.func56, by kernel_rfl, rfl⟩
instance fnc57 : Fnc Try.prog 57 := ⟨_, Try.func57, by kernel_rfl, rfl⟩
instance fnc58 : Fnc Try.prog 58 := ⟨_, Try.func58, by kernel_rfl, rfl⟩
instance fnc59 : Fnc Try.prog 59 := ⟨_, Try.func59, by kernel_rfl, rfl⟩
instance fnc60 : Fnc Try.prog 60 := ⟨_, Try.func60, by kernel_rfl, rfl⟩
instance fnc61 : Fnc Try.prog 61 := ⟨_, Try.func61, by kernel_rfl, rfl⟩
instance fnc62 : Fnc Try.prog 62 := ⟨_, Try.func62, by kernel_rfl, rfl⟩
instance fnc63 : Fnc Try.prog 63 := ⟨_, Try.func63, by kernel_rfl, rfl⟩
instance fnc64 : Fnc Try.prog 64 := ⟨_, Try.func64, by kernel_rfl, rfl⟩
instance fnc65 : Fnc Try.prog 65 := ⟨_, Try.func65, by kernel_rfl, rfl⟩
instance fnc66 : Fnc Try.prog 66 := ⟨_, Try.func66, by kernel_rfl, rfl⟩
instance fnc67 : Fnc Try.prog 67 := ⟨_, Try.func67, by kernel_rfl, rfl⟩
instance fnc68 : Fnc Try.prog 68 := ⟨_, Try.func68, by kernel_rfl, rfl⟩
instance fnc69 : Fnc Try.prog 69 := ⟨_, Try.func69, by kernel_rfl, rfl⟩
instance fnc70 : Fnc Try.prog 70 := ⟨_, Try.func70, by kernel_rfl, rfl⟩
instance fnc71 : Fnc Try.prog 71 := ⟨_, Try.func71, by kernel_rfl, rfl⟩
instance fnc72 : Fnc Try.prog 72 := ⟨_, Try.func72, by kernel_rfl, rfl⟩
instance fnc73 : Fnc Try.prog 73 := ⟨_, Try.func73, by kernel_rfl, rfl⟩
instance fnc74 : Fnc Try.prog 74 := ⟨_, Try.func74, by kernel_rfl, rfl⟩
instance fnc75 : Fnc Try.prog 75 := ⟨_, Try.func75, by kernel_rfl, rfl⟩
instance fnc76 : Fnc Try.prog 76 := ⟨_, Try.func76, by kernel_rfl, rfl⟩
instance fnc77 : Fnc Try.prog 77 := ⟨_, Try.func77, by kernel_rfl, rfl⟩
instance fnc78 : Fnc Try.prog 78 := ⟨_, Try.func78, by kernel_rfl, rfl⟩
instance fnc79 : Fnc Try.prog 79 := ⟨_, Try.func79, by kernel_rfl, rfl⟩
instance fnc80 : Fnc Try.prog 80 := ⟨_, Try.func80, by kernel_rfl, rfl⟩
instance fnc81 : Fnc Try.prog 81 := ⟨_, Try.func81, by kernel_rfl, rfl⟩
instance fnc82 : Fnc Try.prog 82 := ⟨_, Try.func82, by kernel_rfl, rfl⟩
instance fnc83 : Fnc Try.prog 83 := ⟨_, Try.func83, by kernel_rfl, rfl⟩
instance fnc84 : Fnc Try.prog 84 := ⟨_, Try.func84, by kernel_rfl, rfl⟩
instance fnc85 : Fnc Try.prog 85 := ⟨_, Try.func85, by kernel_rfl, rfl⟩
instance fnc86 : Fnc Try.prog 86 := ⟨_, Try.func86, by kernel_rfl, rfl⟩
instance fnc87 : Fnc Try.prog 87 := ⟨_, Try.func87, by kernel_rfl, rfl⟩
instance fnc88 : Fnc Try.prog 88 := ⟨_, Try.func88, by kernel_rfl, rfl⟩
instance fnc89 : Fnc Try.prog 89 := ⟨_, Try.func89, by kernel_rfl, rfl⟩
instance fnc90 : Fnc Try.prog 90 := ⟨_, Try.func90, by kernel_rfl, rfl⟩
instance fnc91 : Fnc Try.prog 91 := ⟨_, Try.func91, by kernel_rfl, rfl⟩
instance fnc92 : Fnc Try.prog 92 := ⟨_, Try.func92, by kernel_rfl, rfl⟩
instance fnc93 : Fnc Try.prog 93 := ⟨_, Try.func93, by kernel_rfl, rfl⟩
instance fnc94 : Fnc Try.prog 94 := ⟨_, Try.func94, by kernel_rfl, rfl⟩
instance fnc95 : Fnc Try.prog 95 := ⟨_, Try.func95, by kernel_rfl, rfl⟩
instance fnc96 : Fnc Try.prog 96 := ⟨_, Try.func96, by kernel_rfl, rfl⟩
instance fnc97 : Fnc Try.prog 97 := ⟨_, Try.func97, by kernel_rfl, rfl⟩
instance fnc98 : Fnc Try.prog 98 := ⟨_, Try.func98, by kernel_rfl, rfl⟩
instance fnc99 : Fnc Try.prog 99 := ⟨_, Try.func99, by kernel_rfl, rfl⟩
instance fnc100 : Fnc Try.prog 100 := ⟨_, Try.func100, by kernel_rfl, rfl⟩
instance fnc101 : Fnc Try.prog 101 := ⟨_, Try.func101, by kernel_rfl, rfl⟩
instance fnc102 : Fnc Try.prog 102 := ⟨_, Try.func102, by kernel_rfl, rfl⟩
instance fnc103 : Fnc Try.prog 103 := ⟨_, Try.func103, by kernel_rfl, rfl⟩
instance fnc104 : Fnc Try.prog 104 := ⟨_, Try.func104, by kernel_rfl, rfl⟩
instance fnc105 : Fnc Try.prog 105 := ⟨_, Try.func105, by kernel_rfl, rfl⟩
instance fnc106 : Fnc Try.prog 106 := ⟨_, Try.func106, by kernel_rfl, rfl⟩
instance fnc107 : Fnc Try.prog 107 := ⟨_, Try.func107, by kernel_rfl, rfl⟩
instance fnc108 : Fnc Try.prog 108 := ⟨_, Try.func108, by kernel_rfl, rfl⟩
instance fnc109 : Fnc Try.prog 109 := ⟨_, Try.func109, by kernel_rfl, rfl⟩
instance fnc110 : Fnc Try.prog 110 := ⟨_, Try.func110, by kernel_rfl, rfl⟩
instance fnc111 : Fnc Try.prog 111 := ⟨_, Try.func111, by kernel_rfl, rfl⟩
instance fnc112 : Fnc Try.prog 112 := ⟨_, Try.func112, by kernel_rfl, rfl⟩
instance fnc113 : Fnc Try.prog 113 := ⟨_, Try.func113, by kernel_rfl, rfl⟩
instance fnc114 : Fnc Try.prog 114 := ⟨_, Try.func114, by kernel_rfl, rfl⟩
instance fnc115 : Fnc Try.prog 115 := ⟨_, Try.func115, by kernel_rfl, rfl⟩
instance fnc116 : Fnc Try.prog 116 := ⟨_, Try.func116, by kernel_rfl, rfl⟩
instance fnc117 : Fnc Try.prog 117 := ⟨_, Try.func117, by kernel_rfl, rfl⟩
instance fnc118 : Fnc Try.prog 118 := ⟨_, Try.func118, by kernel_rfl, rfl⟩
instance fnc119 : Fnc Try.prog 119 := ⟨_, Try.func119, by kernel_rfl, rfl⟩
instance fnc120 : Fnc Try.prog 120 := ⟨_, Try.func120, by kernel_rfl, rfl⟩
instance fnc121 : Fnc Try.prog 121 := ⟨_, Try.func121, by kernel_rfl, rfl⟩
instance fnc122 : Fnc Try.prog 122 := ⟨_, Try.func122, by kernel_rfl, rfl⟩
instance fnc123 : Fnc Try.prog 123 := ⟨_, Try.func123, by kernel_rfl, rfl⟩
instance fnc124 : Fnc Try.prog 124 := ⟨_, Try.func124, by kernel_rfl, rfl⟩
instance fnc125 : Fnc Try.prog 125 := ⟨_, Try.func125, by kernel_rfl, rfl⟩
instance fnc126 : Fnc Try.prog 126 := ⟨_, Try.func126, by kernel_rfl, rfl⟩
instance fnc127 : Fnc Try.prog 127 := ⟨_, Try.func127, by kernel_rfl, rfl⟩
instance fnc128 : Fnc Try.prog 128 := ⟨_, Try.func128, by kernel_rfl, rfl⟩
instance fnc129 : Fnc Try.prog 129 := ⟨_, Try.func129, by kernel_rfl, rfl⟩
instance fnc130 : Fnc Try.prog 130 := ⟨_, Try.func130, by kernel_rfl, rfl⟩
instance fnc131 : Fnc Try.prog 131 := ⟨_, Try.func131, by kernel_rfl, rfl⟩
instance fnc132 : Fnc Try.prog 132 := ⟨_, Try.func132, by kernel_rfl, rfl⟩
instance fnc133 : Fnc Try.prog 133 := ⟨_, Try.func133, by kernel_rfl, rfl⟩
instance fnc134 : Fnc Try.prog 134 := ⟨_, Try.func134, by kernel_rfl, rfl⟩
instance fnc135 : Fnc Try.prog 135 := ⟨_, Try.func135, by kernel_rfl, rfl⟩
instance fnc136 : Fnc Try.prog 136 := ⟨_, Try.func136, by kernel_rfl, rfl⟩
instance fnc137 : Fnc Try.prog 137 := ⟨_, Try.func137, by kernel_rfl, rfl⟩
instance fnc138 : Fnc Try.prog 138 := ⟨_, Try.func138, by kernel_rfl, rfl⟩
instance fnc139 : Fnc Try.prog 139 := ⟨_, Try.func139, by kernel_rfl, rfl⟩
instance fnc140 : Fnc Try.prog 140 := ⟨_, Try.func140, by kernel_rfl, rfl⟩
instance fnc141 : Fnc Try.prog 141 := ⟨_, Try.func141, by kernel_rfl, rfl⟩
instance fnc142 : Fnc Try.prog 142 := ⟨_, Try.func142, by kernel_rfl, rfl⟩
instance fnc143 : Fnc Try.prog 143 := ⟨_, Try.func143, by kernel_rfl, rfl⟩
instance fnc144 : Fnc Try.prog 144 := ⟨_, Try.func144, by kernel_rfl, rfl⟩
instance fnc145 : Fnc Try.prog 145 := ⟨_, Try.func145, by kernel_rfl, rfl⟩
instance fnc146 : Fnc Try.prog 146 := ⟨_, Try.func146, by kernel_rfl, rfl⟩
instance fnc147 : Fnc Try.prog 147 := ⟨_, Try.func147, by kernel_rfl, rfl⟩
instance fnc148 : Fnc Try.prog 148 := ⟨_, Try.func148, by kernel_rfl, rfl⟩
instance fnc149 : Fnc Try.prog 149 := ⟨_, Try.func149, by kernel_rfl, rfl⟩
instance fnc150 : Fnc Try.prog 150 := ⟨_, Try.func150, by kernel_rfl, rfl⟩
instance fnc151 : Fnc Try.prog 151 := ⟨_, Try.func151, by kernel_rfl, rfl⟩
end Go.Proofs.Ytpdhjnacnmfbjaa.Vc
