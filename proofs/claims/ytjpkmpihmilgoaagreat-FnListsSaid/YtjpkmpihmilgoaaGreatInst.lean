/-
  The rows of the program's tables, as instances of the calculus. Conditions: none. Printed by a program.
-/
import Derived.Test.YtjpkmpihmilgoaaGreatZa
import Derived.Test.YtjpkmpihmilgoaaGreatProg
import Derived.KernelRfl
namespace Go.Proofs.YtjpkmpihmilgoaaGreat.Vc
@[reducible] def und1 := @Und.mk Tryz.prog 1 _ Tryz.underlying1
attribute [instance] und1
instance inf1 : Inf Tryz.prog 1 (.nilFunc) 1 8 := ⟨by kernel_rfl⟩
@[reducible] def und2 := @Und.mk Tryz.prog 2 _ Tryz.underlying2
attribute [instance] und2
instance inf2 : Inf Tryz.prog 2 (.int .i64 (0)) 1 8 := ⟨by kernel_rfl⟩
@[reducible] def und3 := @Und.mk Tryz.prog 3 _ Tryz.underlying3
attribute [instance] und3
instance inf3 : Inf Tryz.prog 3 (.int .i64 (0)) 1 8 := ⟨by kernel_rfl⟩
@[reducible] def und4 := @Und.mk Tryz.prog 4 _ Tryz.underlying4
attribute [instance] und4
instance inf4 : Inf Tryz.prog 4 (.bool false) 1 1 := ⟨by kernel_rfl⟩
@[reducible] def und5 := @Und.mk Tryz.prog 5 _ Tryz.underlying5
attribute [instance] und5
instance inf5 : Inf Tryz.prog 5 (.int .u8 (0)) 1 1 := ⟨by kernel_rfl⟩
@[reducible] def und6 := @Und.mk Tryz.prog 6 _ Tryz.underlying6
attribute [instance] und6
instance inf6 : Inf Tryz.prog 6 (.int .u8 (0)) 1 1 := ⟨by kernel_rfl⟩
@[reducible] def und7 := @Und.mk Tryz.prog 7 _ Tryz.underlying7
attribute [instance] und7
instance inf7 : Inf Tryz.prog 7 (.agg #[.int .i64 (0), .int .i64 (0), .bool false, .int .u8 (0)]) 4 24 := ⟨by kernel_rfl⟩
@[reducible] def und8 := @Und.mk Tryz.prog 8 _ Tryz.underlying8
attribute [instance] und8
instance inf8 : Inf Tryz.prog 8 (.agg #[.int .i64 (0), .int .i64 (0), .bool false, .int .u8 (0)]) 4 24 := ⟨by kernel_rfl⟩
@[reducible] def und9 := @Und.mk Tryz.prog 9 _ Tryz.underlying9
attribute [instance] und9
instance inf9 : Inf Tryz.prog 9 (.string .empty) 1 16 := ⟨by kernel_rfl⟩
@[reducible] def und10 := @Und.mk Tryz.prog 10 _ Tryz.underlying10
attribute [instance] und10
instance inf10 : Inf Tryz.prog 10 (.string .empty) 1 16 := ⟨by kernel_rfl⟩
@[reducible] def und11 := @Und.mk Tryz.prog 11 _ Tryz.underlying11
attribute [instance] und11
instance inf11 : Inf Tryz.prog 11 (.string .empty) 1 16 := ⟨by kernel_rfl⟩
@[reducible] def und12 := @Und.mk Tryz.prog 12 _ Tryz.underlying12
attribute [instance] und12
instance inf12 : Inf Tryz.prog 12 (.int .u64 (0)) 1 8 := ⟨by kernel_rfl⟩
@[reducible] def und13 := @Und.mk Tryz.prog 13 _ Tryz.underlying13
attribute [instance] und13
instance inf13 : Inf Tryz.prog 13 (.agg #[.string .empty, .int .u64 (0)]) 2 24 := ⟨by kernel_rfl⟩
@[reducible] def und14 := @Und.mk Tryz.prog 14 _ Tryz.underlying14
attribute [instance] und14
instance inf14 : Inf Tryz.prog 14 (.agg #[.string .empty, .int .u64 (0)]) 2 24 := ⟨by kernel_rfl⟩
@[reducible] def und15 := @Und.mk Tryz.prog 15 _ Tryz.underlying15
attribute [instance] und15
instance inf15 : Inf Tryz.prog 15 (.pointer none) 1 8 := ⟨by kernel_rfl⟩
@[reducible] def und16 := @Und.mk Tryz.prog 16 _ Tryz.underlying16
attribute [instance] und16
instance inf16 : Inf Tryz.prog 16 (.pointer none) 1 8 := ⟨by kernel_rfl⟩
@[reducible] def und17 := @Und.mk Tryz.prog 17 _ Tryz.underlying17
attribute [instance] und17
instance inf17 : Inf Tryz.prog 17 (.pointer none) 1 8 := ⟨by kernel_rfl⟩
@[reducible] def und18 := @Und.mk Tryz.prog 18 _ Tryz.underlying18
attribute [instance] und18
instance inf18 : Inf Tryz.prog 18 (.agg #[.pointer none]) 1 8 := ⟨by kernel_rfl⟩
@[reducible] def und19 := @Und.mk Tryz.prog 19 _ Tryz.underlying19
attribute [instance] und19
instance inf19 : Inf Tryz.prog 19 (.agg #[.pointer none]) 1 8 := ⟨by kernel_rfl⟩
@[reducible] def und20 := @Und.mk Tryz.prog 20 _ Tryz.underlying20
attribute [instance] und20
instance inf20 : Inf Tryz.prog 20 (.nilIface) 1 16 := ⟨by kernel_rfl⟩
@[reducible] def und21 := @Und.mk Tryz.prog 21 _ Tryz.underlying21
attribute [instance] und21
instance inf21 : Inf Tryz.prog 21 (.int .i32 (0)) 1 4 := ⟨by kernel_rfl⟩
@[reducible] def und22 := @Und.mk Tryz.prog 22 _ Tryz.underlying22
attribute [instance] und22
instance inf22 : Inf Tryz.prog 22 (.slice none 0 0) 1 24 := ⟨by kernel_rfl⟩
@[reducible] def und23 := @Und.mk Tryz.prog 23 _ Tryz.underlying23
attribute [instance] und23
instance inf23 : Inf Tryz.prog 23 (.nilFunc) 1 8 := ⟨by kernel_rfl⟩
@[reducible] def und25 := @Und.mk Tryz.prog 25 _ Tryz.underlying25
attribute [instance] und25
instance inf25 : Inf Tryz.prog 25 (.nilFunc) 1 8 := ⟨by kernel_rfl⟩
@[reducible] def und26 := @Und.mk Tryz.prog 26 _ Tryz.underlying26
attribute [instance] und26
instance inf26 : Inf Tryz.prog 26 (.slice none 0 0) 1 24 := ⟨by kernel_rfl⟩
@[reducible] def und28 := @Und.mk Tryz.prog 28 _ Tryz.underlying28
attribute [instance] und28
instance inf28 : Inf Tryz.prog 28 (.nilFunc) 1 8 := ⟨by kernel_rfl⟩
@[reducible] def und29 := @Und.mk Tryz.prog 29 _ Tryz.underlying29
attribute [instance] und29
instance inf29 : Inf Tryz.prog 29 (.nilFunc) 1 8 := ⟨by kernel_rfl⟩
@[reducible] def und30 := @Und.mk Tryz.prog 30 _ Tryz.underlying30
attribute [instance] und30
instance inf30 : Inf Tryz.prog 30 (.slice none 0 0) 1 24 := ⟨by kernel_rfl⟩
@[reducible] def und31 := @Und.mk Tryz.prog 31 _ Tryz.underlying31
attribute [instance] und31
instance inf31 : Inf Tryz.prog 31 (.agg #[.slice none 0 0]) 1 24 := ⟨by kernel_rfl⟩
@[reducible] def und32 := @Und.mk Tryz.prog 32 _ Tryz.underlying32
attribute [instance] und32
instance inf32 : Inf Tryz.prog 32 (.agg #[.slice none 0 0]) 1 24 := ⟨by kernel_rfl⟩
@[reducible] def und33 := @Und.mk Tryz.prog 33 _ Tryz.underlying33
attribute [instance] und33
instance inf33 : Inf Tryz.prog 33 (.nilFunc) 1 8 := ⟨by kernel_rfl⟩
@[reducible] def und34 := @Und.mk Tryz.prog 34 _ Tryz.underlying34
attribute [instance] und34
instance inf34 : Inf Tryz.prog 34 (.slice none 0 0) 1 24 := ⟨by kernel_rfl⟩
@[reducible] def und36 := @Und.mk Tryz.prog 36 _ Tryz.underlying36
attribute [instance] und36
instance inf36 : Inf Tryz.prog 36 (.nilFunc) 1 8 := ⟨by kernel_rfl⟩
@[reducible] def und37 := @Und.mk Tryz.prog 37 _ Tryz.underlying37
attribute [instance] und37
instance inf37 : Inf Tryz.prog 37 (.slice none 0 0) 1 24 := ⟨by kernel_rfl⟩
@[reducible] def und39 := @Und.mk Tryz.prog 39 _ Tryz.underlying39
attribute [instance] und39
instance inf39 : Inf Tryz.prog 39 (.nilFunc) 1 8 := ⟨by kernel_rfl⟩
@[reducible] def und40 := @Und.mk Tryz.prog 40 _ Tryz.underlying40
attribute [instance] und40
instance inf40 : Inf Tryz.prog 40 (.nilFunc) 1 8 := ⟨by kernel_rfl⟩
@[reducible] def und41 := @Und.mk Tryz.prog 41 _ Tryz.underlying41
attribute [instance] und41
instance inf41 : Inf Tryz.prog 41 (.nilFunc) 1 8 := ⟨by kernel_rfl⟩
@[reducible] def und42 := @Und.mk Tryz.prog 42 _ Tryz.underlying42
attribute [instance] und42
instance inf42 : Inf Tryz.prog 42 (.agg #[.slice none 0 0, .int .i64 (0)]) 2 32 := ⟨by kernel_rfl⟩
@[reducible] def und43 := @Und.mk Tryz.prog 43 _ Tryz.underlying43
attribute [instance] und43
instance inf43 : Inf Tryz.prog 43 (.agg #[.slice none 0 0, .int .i64 (0)]) 2 32 := ⟨by kernel_rfl⟩
@[reducible] def und45 := @Und.mk Tryz.prog 45 _ Tryz.underlying45
attribute [instance] und45
instance inf45 : Inf Tryz.prog 45 (.nilFunc) 1 8 := ⟨by kernel_rfl⟩
@[reducible] def und46 := @Und.mk Tryz.prog 46 _ Tryz.underlying46
attribute [instance] und46
instance inf46 : Inf Tryz.prog 46 (.pointer none) 1 8 := ⟨by kernel_rfl⟩
@[reducible] def und47 := @Und.mk Tryz.prog 47 _ Tryz.underlying47
attribute [instance] und47
instance inf47 : Inf Tryz.prog 47 (.nilFunc) 1 8 := ⟨by kernel_rfl⟩
@[reducible] def und48 := @Und.mk Tryz.prog 48 _ Tryz.underlying48
attribute [instance] und48
instance inf48 : Inf Tryz.prog 48 (.int .u64 (0)) 1 8 := ⟨by kernel_rfl⟩
@[reducible] def und49 := @Und.mk Tryz.prog 49 _ Tryz.underlying49
attribute [instance] und49
instance inf49 : Inf Tryz.prog 49 (.nilFunc) 1 8 := ⟨by kernel_rfl⟩
@[reducible] def und51 := @Und.mk Tryz.prog 51 _ Tryz.underlying51
attribute [instance] und51
instance inf51 : Inf Tryz.prog 51 (.nilFunc) 1 8 := ⟨by kernel_rfl⟩
@[reducible] def und52 := @Und.mk Tryz.prog 52 _ Tryz.underlying52
attribute [instance] und52
instance inf52 : Inf Tryz.prog 52 (.nilFunc) 1 8 := ⟨by kernel_rfl⟩
@[reducible] def und53 := @Und.mk Tryz.prog 53 _ Tryz.underlying53
attribute [instance] und53
instance inf53 : Inf Tryz.prog 53 (.nilFunc) 1 8 := ⟨by kernel_rfl⟩
@[reducible] def und55 := @Und.mk Tryz.prog 55 _ Tryz.underlying55
attribute [instance] und55
instance inf55 : Inf Tryz.prog 55 (.nilFunc) 1 8 := ⟨by kernel_rfl⟩
@[reducible] def und56 := @Und.mk Tryz.prog 56 _ Tryz.underlying56
attribute [instance] und56
instance inf56 : Inf Tryz.prog 56 (.nilFunc) 1 8 := ⟨by kernel_rfl⟩
@[reducible] def und57 := @Und.mk Tryz.prog 57 _ Tryz.underlying57
attribute [instance] und57
instance inf57 : Inf Tryz.prog 57 (.nilFunc) 1 8 := ⟨by kernel_rfl⟩
@[reducible] def und58 := @Und.mk Tryz.prog 58 _ Tryz.underlying58
attribute [instance] und58
instance inf58 : Inf Tryz.prog 58 (.nilFunc) 1 8 := ⟨by kernel_rfl⟩
@[reducible] def und59 := @Und.mk Tryz.prog 59 _ Tryz.underlying59
attribute [instance] und59
instance inf59 : Inf Tryz.prog 59 (.nilFunc) 1 8 := ⟨by kernel_rfl⟩
@[reducible] def und60 := @Und.mk Tryz.prog 60 _ Tryz.underlying60
attribute [instance] und60
instance inf60 : Inf Tryz.prog 60 (.nilFunc) 1 8 := ⟨by kernel_rfl⟩
@[reducible] def und62 := @Und.mk Tryz.prog 62 _ Tryz.underlying62
attribute [instance] und62
instance inf62 : Inf Tryz.prog 62 (.nilFunc) 1 8 := ⟨by kernel_rfl⟩
@[reducible] def und63 := @Und.mk Tryz.prog 63 _ Tryz.underlying63
attribute [instance] und63
instance inf63 : Inf Tryz.prog 63 (.nilFunc) 1 8 := ⟨by kernel_rfl⟩
@[reducible] def und65 := @Und.mk Tryz.prog 65 _ Tryz.underlying65
attribute [instance] und65
instance inf65 : Inf Tryz.prog 65 (.nilFunc) 1 8 := ⟨by kernel_rfl⟩
@[reducible] def und66 := @Und.mk Tryz.prog 66 _ Tryz.underlying66
attribute [instance] und66
instance inf66 : Inf Tryz.prog 66 (.nilFunc) 1 8 := ⟨by kernel_rfl⟩
@[reducible] def und67 := @Und.mk Tryz.prog 67 _ Tryz.underlying67
attribute [instance] und67
instance inf67 : Inf Tryz.prog 67 (.nilFunc) 1 8 := ⟨by kernel_rfl⟩
@[reducible] def und68 := @Und.mk Tryz.prog 68 _ Tryz.underlying68
attribute [instance] und68
instance inf68 : Inf Tryz.prog 68 (.pointer none) 1 8 := ⟨by kernel_rfl⟩
@[reducible] def und69 := @Und.mk Tryz.prog 69 _ Tryz.underlying69
attribute [instance] und69
instance inf69 : Inf Tryz.prog 69 (.nilFunc) 1 8 := ⟨by kernel_rfl⟩
@[reducible] def und70 := @Und.mk Tryz.prog 70 _ Tryz.underlying70
attribute [instance] und70
instance inf70 : Inf Tryz.prog 70 (.nilFunc) 1 8 := ⟨by kernel_rfl⟩
@[reducible] def und72 := @Und.mk Tryz.prog 72 _ Tryz.underlying72
attribute [instance] und72
instance inf72 : Inf Tryz.prog 72 (.nilFunc) 1 8 := ⟨by kernel_rfl⟩
@[reducible] def und73 := @Und.mk Tryz.prog 73 _ Tryz.underlying73
attribute [instance] und73
instance inf73 : Inf Tryz.prog 73 (.nilFunc) 1 8 := ⟨by kernel_rfl⟩
@[reducible] def und74 := @Und.mk Tryz.prog 74 _ Tryz.underlying74
attribute [instance] und74
instance inf74 : Inf Tryz.prog 74 (.nilFunc) 1 8 := ⟨by kernel_rfl⟩
@[reducible] def und75 := @Und.mk Tryz.prog 75 _ Tryz.underlying75
attribute [instance] und75
instance inf75 : Inf Tryz.prog 75 (.nilFunc) 1 8 := ⟨by kernel_rfl⟩
@[reducible] def und76 := @Und.mk Tryz.prog 76 _ Tryz.underlying76
attribute [instance] und76
instance inf76 : Inf Tryz.prog 76 (.nilFunc) 1 8 := ⟨by kernel_rfl⟩
@[reducible] def und77 := @Und.mk Tryz.prog 77 _ Tryz.underlying77
attribute [instance] und77
instance inf77 : Inf Tryz.prog 77 (.nilFunc) 1 8 := ⟨by kernel_rfl⟩
@[reducible] def und78 := @Und.mk Tryz.prog 78 _ Tryz.underlying78
attribute [instance] und78
instance inf78 : Inf Tryz.prog 78 (.nilFunc) 1 8 := ⟨by kernel_rfl⟩
@[reducible] def und79 := @Und.mk Tryz.prog 79 _ Tryz.underlying79
attribute [instance] und79
instance inf79 : Inf Tryz.prog 79 (.nilFunc) 1 8 := ⟨by kernel_rfl⟩
@[reducible] def und80 := @Und.mk Tryz.prog 80 _ Tryz.underlying80
attribute [instance] und80
instance inf80 : Inf Tryz.prog 80 (.nilFunc) 1 8 := ⟨by kernel_rfl⟩
@[reducible] def und81 := @Und.mk Tryz.prog 81 _ Tryz.underlying81
attribute [instance] und81
instance inf81 : Inf Tryz.prog 81 (.nilFunc) 1 8 := ⟨by kernel_rfl⟩
@[reducible] def und82 := @Und.mk Tryz.prog 82 _ Tryz.underlying82
attribute [instance] und82
instance inf82 : Inf Tryz.prog 82 (.nilFunc) 1 8 := ⟨by kernel_rfl⟩
@[reducible] def und83 := @Und.mk Tryz.prog 83 _ Tryz.underlying83
attribute [instance] und83
instance inf83 : Inf Tryz.prog 83 (.nilFunc) 1 8 := ⟨by kernel_rfl⟩
@[reducible] def und84 := @Und.mk Tryz.prog 84 _ Tryz.underlying84
attribute [instance] und84
instance inf84 : Inf Tryz.prog 84 (.agg #[.slice none 0 0, .int .i64 (0), .int .u64 (0)]) 3 40 := ⟨by kernel_rfl⟩
@[reducible] def und85 := @Und.mk Tryz.prog 85 _ Tryz.underlying85
attribute [instance] und85
instance inf85 : Inf Tryz.prog 85 (.agg #[.slice none 0 0, .int .i64 (0), .int .u64 (0)]) 3 40 := ⟨by kernel_rfl⟩
@[reducible] def und86 := @Und.mk Tryz.prog 86 _ Tryz.underlying86
attribute [instance] und86
instance inf86 : Inf Tryz.prog 86 (.int .u64 (0)) 1 8 := ⟨by kernel_rfl⟩
@[reducible] def und87 := @Und.mk Tryz.prog 87 _ Tryz.underlying87
attribute [instance] und87
instance inf87 : Inf Tryz.prog 87 (.nilFunc) 1 8 := ⟨by kernel_rfl⟩
@[reducible] def und89 := @Und.mk Tryz.prog 89 _ Tryz.underlying89
attribute [instance] und89
instance inf89 : Inf Tryz.prog 89 (.nilFunc) 1 8 := ⟨by kernel_rfl⟩
@[reducible] def und90 := @Und.mk Tryz.prog 90 _ Tryz.underlying90
attribute [instance] und90
instance inf90 : Inf Tryz.prog 90 (.nilFunc) 1 8 := ⟨by kernel_rfl⟩
@[reducible] def und91 := @Und.mk Tryz.prog 91 _ Tryz.underlying91
attribute [instance] und91
instance inf91 : Inf Tryz.prog 91 (.nilFunc) 1 8 := ⟨by kernel_rfl⟩
@[reducible] def und92 := @Und.mk Tryz.prog 92 _ Tryz.underlying92
attribute [instance] und92
instance inf92 : Inf Tryz.prog 92 (.nilFunc) 1 8 := ⟨by kernel_rfl⟩
@[reducible] def und93 := @Und.mk Tryz.prog 93 _ Tryz.underlying93
attribute [instance] und93
instance inf93 : Inf Tryz.prog 93 (.nilFunc) 1 8 := ⟨by kernel_rfl⟩
@[reducible] def und94 := @Und.mk Tryz.prog 94 _ Tryz.underlying94
attribute [instance] und94
instance inf94 : Inf Tryz.prog 94 (.nilFunc) 1 8 := ⟨by kernel_rfl⟩
@[reducible] def und95 := @Und.mk Tryz.prog 95 _ Tryz.underlying95
attribute [instance] und95
instance inf95 : Inf Tryz.prog 95 (.nilFunc) 1 8 := ⟨by kernel_rfl⟩
@[reducible] def und96 := @Und.mk Tryz.prog 96 _ Tryz.underlying96
attribute [instance] und96
instance inf96 : Inf Tryz.prog 96 (.nilFunc) 1 8 := ⟨by kernel_rfl⟩
@[reducible] def und97 := @Und.mk Tryz.prog 97 _ Tryz.underlying97
attribute [instance] und97
instance inf97 : Inf Tryz.prog 97 (.nilFunc) 1 8 := ⟨by kernel_rfl⟩
@[reducible] def und98 := @Und.mk Tryz.prog 98 _ Tryz.underlying98
attribute [instance] und98
instance inf98 : Inf Tryz.prog 98 (.nilFunc) 1 8 := ⟨by kernel_rfl⟩
@[reducible] def und99 := @Und.mk Tryz.prog 99 _ Tryz.underlying99
attribute [instance] und99
instance inf99 : Inf Tryz.prog 99 (.nilFunc) 1 8 := ⟨by kernel_rfl⟩
@[reducible] def und100 := @Und.mk Tryz.prog 100 _ Tryz.underlying100
attribute [instance] und100
instance inf100 : Inf Tryz.prog 100 (.nilFunc) 1 8 := ⟨by kernel_rfl⟩
@[reducible] def und101 := @Und.mk Tryz.prog 101 _ Tryz.underlying101
attribute [instance] und101
instance inf101 : Inf Tryz.prog 101 (.nilFunc) 1 8 := ⟨by kernel_rfl⟩
@[reducible] def und102 := @Und.mk Tryz.prog 102 _ Tryz.underlying102
attribute [instance] und102
instance inf102 : Inf Tryz.prog 102 (.nilFunc) 1 8 := ⟨by kernel_rfl⟩
@[reducible] def und103 := @Und.mk Tryz.prog 103 _ Tryz.underlying103
attribute [instance] und103
instance inf103 : Inf Tryz.prog 103 (.nilFunc) 1 8 := ⟨by kernel_rfl⟩
@[reducible] def und104 := @Und.mk Tryz.prog 104 _ Tryz.underlying104
attribute [instance] und104
instance inf104 : Inf Tryz.prog 104 (.nilFunc) 1 8 := ⟨by kernel_rfl⟩
@[reducible] def und105 := @Und.mk Tryz.prog 105 _ Tryz.underlying105
attribute [instance] und105
instance inf105 : Inf Tryz.prog 105 (.nilFunc) 1 8 := ⟨by kernel_rfl⟩
@[reducible] def und106 := @Und.mk Tryz.prog 106 _ Tryz.underlying106
attribute [instance] und106
instance inf106 : Inf Tryz.prog 106 (.nilFunc) 1 8 := ⟨by kernel_rfl⟩
@[reducible] def und107 := @Und.mk Tryz.prog 107 _ Tryz.underlying107
attribute [instance] und107
instance inf107 : Inf Tryz.prog 107 (.nilFunc) 1 8 := ⟨by kernel_rfl⟩
@[reducible] def und108 := @Und.mk Tryz.prog 108 _ Tryz.underlying108
attribute [instance] und108
instance inf108 : Inf Tryz.prog 108 (.agg #[.slice none 0 0, .int .i64 (0), .int .u64 (0)]) 3 40 := ⟨by kernel_rfl⟩
@[reducible] def und109 := @Und.mk Tryz.prog 109 _ Tryz.underlying109
attribute [instance] und109
instance inf109 : Inf Tryz.prog 109 (.agg #[.slice none 0 0, .int .i64 (0), .int .u64 (0)]) 3 40 := ⟨by kernel_rfl⟩
@[reducible] def und110 := @Und.mk Tryz.prog 110 _ Tryz.underlying110
attribute [instance] und110
instance inf110 : Inf Tryz.prog 110 (.nilFunc) 1 8 := ⟨by kernel_rfl⟩
@[reducible] def und111 := @Und.mk Tryz.prog 111 _ Tryz.underlying111
attribute [instance] und111
instance inf111 : Inf Tryz.prog 111 (.pointer none) 1 8 := ⟨by kernel_rfl⟩
@[reducible] def und112 := @Und.mk Tryz.prog 112 _ Tryz.underlying112
attribute [instance] und112
instance inf112 : Inf Tryz.prog 112 (.agg #[.slice none 0 0, .int .i64 (0), .int .i64 (0), .slice none 0 0]) 4 64 := ⟨by kernel_rfl⟩
@[reducible] def und113 := @Und.mk Tryz.prog 113 _ Tryz.underlying113
attribute [instance] und113
instance inf113 : Inf Tryz.prog 113 (.agg #[.slice none 0 0, .int .i64 (0), .int .i64 (0), .slice none 0 0]) 4 64 := ⟨by kernel_rfl⟩
@[reducible] def und114 := @Und.mk Tryz.prog 114 _ Tryz.underlying114
attribute [instance] und114
instance inf114 : Inf Tryz.prog 114 (.nilFunc) 1 8 := ⟨by kernel_rfl⟩
@[reducible] def und115 := @Und.mk Tryz.prog 115 _ Tryz.underlying115
attribute [instance] und115
instance inf115 : Inf Tryz.prog 115 (.nilFunc) 1 8 := ⟨by kernel_rfl⟩
@[reducible] def und116 := @Und.mk Tryz.prog 116 _ Tryz.underlying116
attribute [instance] und116
instance inf116 : Inf Tryz.prog 116 (.pointer none) 1 8 := ⟨by kernel_rfl⟩
@[reducible] def und117 := @Und.mk Tryz.prog 117 _ Tryz.underlying117
attribute [instance] und117
instance inf117 : Inf Tryz.prog 117 (.nilFunc) 1 8 := ⟨by kernel_rfl⟩
@[reducible] def und118 := @Und.mk Tryz.prog 118 _ Tryz.underlying118
attribute [instance] und118
instance inf118 : Inf Tryz.prog 118 (.nilFunc) 1 8 := ⟨by kernel_rfl⟩
@[reducible] def und119 := @Und.mk Tryz.prog 119 _ Tryz.underlying119
attribute [instance] und119
instance inf119 : Inf Tryz.prog 119 (.nilFunc) 1 8 := ⟨by kernel_rfl⟩
@[reducible] def und120 := @Und.mk Tryz.prog 120 _ Tryz.underlying120
attribute [instance] und120
instance inf120 : Inf Tryz.prog 120 (.nilFunc) 1 8 := ⟨by kernel_rfl⟩
@[reducible] def und121 := @Und.mk Tryz.prog 121 _ Tryz.underlying121
attribute [instance] und121
instance inf121 : Inf Tryz.prog 121 (.nilFunc) 1 8 := ⟨by kernel_rfl⟩
@[reducible] def und122 := @Und.mk Tryz.prog 122 _ Tryz.underlying122
attribute [instance] und122
instance inf122 : Inf Tryz.prog 122 (.nilFunc) 1 8 := ⟨by kernel_rfl⟩
@[reducible] def und123 := @Und.mk Tryz.prog 123 _ Tryz.underlying123
attribute [instance] und123
instance inf123 : Inf Tryz.prog 123 (.nilFunc) 1 8 := ⟨by kernel_rfl⟩
@[reducible] def und124 := @Und.mk Tryz.prog 124 _ Tryz.underlying124
attribute [instance] und124
instance inf124 : Inf Tryz.prog 124 (.nilFunc) 1 8 := ⟨by kernel_rfl⟩
@[reducible] def und125 := @Und.mk Tryz.prog 125 _ Tryz.underlying125
attribute [instance] und125
instance inf125 : Inf Tryz.prog 125 (.nilFunc) 1 8 := ⟨by kernel_rfl⟩
@[reducible] def und126 := @Und.mk Tryz.prog 126 _ Tryz.underlying126
attribute [instance] und126
instance inf126 : Inf Tryz.prog 126 (.nilFunc) 1 8 := ⟨by kernel_rfl⟩
@[reducible] def und127 := @Und.mk Tryz.prog 127 _ Tryz.underlying127
attribute [instance] und127
instance inf127 : Inf Tryz.prog 127 (.nilFunc) 1 8 := ⟨by kernel_rfl⟩
@[reducible] def und128 := @Und.mk Tryz.prog 128 _ Tryz.underlying128
attribute [instance] und128
instance inf128 : Inf Tryz.prog 128 (.nilFunc) 1 8 := ⟨by kernel_rfl⟩
@[reducible] def und129 := @Und.mk Tryz.prog 129 _ Tryz.underlying129
attribute [instance] und129
instance inf129 : Inf Tryz.prog 129 (.slice none 0 0) 1 24 := ⟨by kernel_rfl⟩
@[reducible] def und130 := @Und.mk Tryz.prog 130 _ Tryz.underlying130
attribute [instance] und130
instance inf130 : Inf Tryz.prog 130 (.nilFunc) 1 8 := ⟨by kernel_rfl⟩
@[reducible] def und131 := @Und.mk Tryz.prog 131 _ Tryz.underlying131
attribute [instance] und131
instance inf131 : Inf Tryz.prog 131 (.nilFunc) 1 8 := ⟨by kernel_rfl⟩
@[reducible] def und132 := @Und.mk Tryz.prog 132 _ Tryz.underlying132
attribute [instance] und132
instance inf132 : Inf Tryz.prog 132 (.nilFunc) 1 8 := ⟨by kernel_rfl⟩
@[reducible] def und133 := @Und.mk Tryz.prog 133 _ Tryz.underlying133
attribute [instance] und133
instance inf133 : Inf Tryz.prog 133 (.nilFunc) 1 8 := ⟨by kernel_rfl⟩
@[reducible] def und134 := @Und.mk Tryz.prog 134 _ Tryz.underlying134
attribute [instance] und134
instance inf134 : Inf Tryz.prog 134 (.nilFunc) 1 8 := ⟨by kernel_rfl⟩
@[reducible] def und135 := @Und.mk Tryz.prog 135 _ Tryz.underlying135
attribute [instance] und135
instance inf135 : Inf Tryz.prog 135 (.nilFunc) 1 8 := ⟨by kernel_rfl⟩
@[reducible] def und136 := @Und.mk Tryz.prog 136 _ Tryz.underlying136
attribute [instance] und136
instance inf136 : Inf Tryz.prog 136 (.nilFunc) 1 8 := ⟨by kernel_rfl⟩
@[reducible] def und137 := @Und.mk Tryz.prog 137 _ Tryz.underlying137
attribute [instance] und137
instance inf137 : Inf Tryz.prog 137 (.nilFunc) 1 8 := ⟨by kernel_rfl⟩
@[reducible] def und139 := @Und.mk Tryz.prog 139 _ Tryz.underlying139
attribute [instance] und139
instance inf139 : Inf Tryz.prog 139 (.nilFunc) 1 8 := ⟨by kernel_rfl⟩
@[reducible] def und140 := @Und.mk Tryz.prog 140 _ Tryz.underlying140
attribute [instance] und140
instance inf140 : Inf Tryz.prog 140 (.nilFunc) 1 8 := ⟨by kernel_rfl⟩
@[reducible] def und141 := @Und.mk Tryz.prog 141 _ Tryz.underlying141
attribute [instance] und141
instance inf141 : Inf Tryz.prog 141 (.nilFunc) 1 8 := ⟨by kernel_rfl⟩
@[reducible] def und142 := @Und.mk Tryz.prog 142 _ Tryz.underlying142
attribute [instance] und142
instance inf142 : Inf Tryz.prog 142 (.int .i64 (0)) 1 8 := ⟨by kernel_rfl⟩
@[reducible] def und144 := @Und.mk Tryz.prog 144 _ Tryz.underlying144
attribute [instance] und144
instance inf144 : Inf Tryz.prog 144 (.nilFunc) 1 8 := ⟨by kernel_rfl⟩
@[reducible] def und145 := @Und.mk Tryz.prog 145 _ Tryz.underlying145
attribute [instance] und145
instance inf145 : Inf Tryz.prog 145 (.nilFunc) 1 8 := ⟨by kernel_rfl⟩
@[reducible] def und146 := @Und.mk Tryz.prog 146 _ Tryz.underlying146
attribute [instance] und146
instance inf146 : Inf Tryz.prog 146 (.nilFunc) 1 8 := ⟨by kernel_rfl⟩
@[reducible] def und148 := @Und.mk Tryz.prog 148 _ Tryz.underlying148
attribute [instance] und148
instance inf148 : Inf Tryz.prog 148 (.nilFunc) 1 8 := ⟨by kernel_rfl⟩
@[reducible] def und149 := @Und.mk Tryz.prog 149 _ Tryz.underlying149
attribute [instance] und149
instance inf149 : Inf Tryz.prog 149 (.nilFunc) 1 8 := ⟨by kernel_rfl⟩
@[reducible] def und150 := @Und.mk Tryz.prog 150 _ Tryz.underlying150
attribute [instance] und150
instance inf150 : Inf Tryz.prog 150 (.int .u32 (0)) 1 4 := ⟨by kernel_rfl⟩
@[reducible] def und151 := @Und.mk Tryz.prog 151 _ Tryz.underlying151
attribute [instance] und151
instance inf151 : Inf Tryz.prog 151 (.nilFunc) 1 8 := ⟨by kernel_rfl⟩
@[reducible] def und152 := @Und.mk Tryz.prog 152 _ Tryz.underlying152
attribute [instance] und152
instance inf152 : Inf Tryz.prog 152 (.nilFunc) 1 8 := ⟨by kernel_rfl⟩
@[reducible] def und153 := @Und.mk Tryz.prog 153 _ Tryz.underlying153
attribute [instance] und153
instance inf153 : Inf Tryz.prog 153 (.nilFunc) 1 8 := ⟨by kernel_rfl⟩
@[reducible] def und154 := @Und.mk Tryz.prog 154 _ Tryz.underlying154
attribute [instance] und154
instance inf154 : Inf Tryz.prog 154 (.nilFunc) 1 8 := ⟨by kernel_rfl⟩
@[reducible] def und155 := @Und.mk Tryz.prog 155 _ Tryz.underlying155
attribute [instance] und155
instance inf155 : Inf Tryz.prog 155 (.nilFunc) 1 8 := ⟨by kernel_rfl⟩
@[reducible] def und156 := @Und.mk Tryz.prog 156 _ Tryz.underlying156
attribute [instance] und156
instance inf156 : Inf Tryz.prog 156 (.nilFunc) 1 8 := ⟨by kernel_rfl⟩
@[reducible] def und157 := @Und.mk Tryz.prog 157 _ Tryz.underlying157
attribute [instance] und157
instance inf157 : Inf Tryz.prog 157 (.nilFunc) 1 8 := ⟨by kernel_rfl⟩
@[reducible] def und158 := @Und.mk Tryz.prog 158 _ Tryz.underlying158
attribute [instance] und158
instance inf158 : Inf Tryz.prog 158 (.nilFunc) 1 8 := ⟨by kernel_rfl⟩
@[reducible] def und159 := @Und.mk Tryz.prog 159 _ Tryz.underlying159
attribute [instance] und159
instance inf159 : Inf Tryz.prog 159 (.nilFunc) 1 8 := ⟨by kernel_rfl⟩
@[reducible] def und160 := @Und.mk Tryz.prog 160 _ Tryz.underlying160
attribute [instance] und160
instance inf160 : Inf Tryz.prog 160 (.nilFunc) 1 8 := ⟨by kernel_rfl⟩
@[reducible] def und161 := @Und.mk Tryz.prog 161 _ Tryz.underlying161
attribute [instance] und161
instance inf161 : Inf Tryz.prog 161 (.nilFunc) 1 8 := ⟨by kernel_rfl⟩
@[reducible] def und162 := @Und.mk Tryz.prog 162 _ Tryz.underlying162
attribute [instance] und162
instance inf162 : Inf Tryz.prog 162 (.nilFunc) 1 8 := ⟨by kernel_rfl⟩
@[reducible] def und164 := @Und.mk Tryz.prog 164 _ Tryz.underlying164
attribute [instance] und164
instance inf164 : Inf Tryz.prog 164 (.nilFunc) 1 8 := ⟨by kernel_rfl⟩
@[reducible] def und166 := @Und.mk Tryz.prog 166 _ Tryz.underlying166
attribute [instance] und166
instance inf166 : Inf Tryz.prog 166 (.nilFunc) 1 8 := ⟨by kernel_rfl⟩
@[reducible] def und167 := @Und.mk Tryz.prog 167 _ Tryz.underlying167
attribute [instance] und167
instance inf167 : Inf Tryz.prog 167 (.int .u64 (0)) 1 8 := ⟨by kernel_rfl⟩
@[reducible] def und168 := @Und.mk Tryz.prog 168 _ Tryz.underlying168
attribute [instance] und168
instance inf168 : Inf Tryz.prog 168 (.nilFunc) 1 8 := ⟨by kernel_rfl⟩
@[reducible] def und169 := @Und.mk Tryz.prog 169 _ Tryz.underlying169
attribute [instance] und169
instance inf169 : Inf Tryz.prog 169 (.nilFunc) 1 8 := ⟨by kernel_rfl⟩
@[reducible] def und170 := @Und.mk Tryz.prog 170 _ Tryz.underlying170
attribute [instance] und170
instance inf170 : Inf Tryz.prog 170 (.nilFunc) 1 8 := ⟨by kernel_rfl⟩
@[reducible] def und171 := @Und.mk Tryz.prog 171 _ Tryz.underlying171
attribute [instance] und171
instance inf171 : Inf Tryz.prog 171 (.pointer none) 1 8 := ⟨by kernel_rfl⟩
@[reducible] def und172 := @Und.mk Tryz.prog 172 _ Tryz.underlying172
attribute [instance] und172
instance inf172 : Inf Tryz.prog 172 (.nilFunc) 1 8 := ⟨by kernel_rfl⟩
@[reducible] def und173 := @Und.mk Tryz.prog 173 _ Tryz.underlying173
attribute [instance] und173
instance inf173 : Inf Tryz.prog 173 (.nilFunc) 1 8 := ⟨by kernel_rfl⟩
@[reducible] def und174 := @Und.mk Tryz.prog 174 _ Tryz.underlying174
attribute [instance] und174
instance inf174 : Inf Tryz.prog 174 (.nilFunc) 1 8 := ⟨by kernel_rfl⟩
@[reducible] def und175 := @Und.mk Tryz.prog 175 _ Tryz.underlying175
attribute [instance] und175
instance inf175 : Inf Tryz.prog 175 (.nilFunc) 1 8 := ⟨by kernel_rfl⟩
@[reducible] def und176 := @Und.mk Tryz.prog 176 _ Tryz.underlying176
attribute [instance] und176
instance inf176 : Inf Tryz.prog 176 (.nilFunc) 1 8 := ⟨by kernel_rfl⟩
@[reducible] def und177 := @Und.mk Tryz.prog 177 _ Tryz.underlying177
attribute [instance] und177
instance inf177 : Inf Tryz.prog 177 (.nilFunc) 1 8 := ⟨by kernel_rfl⟩
@[reducible] def und178 := @Und.mk Tryz.prog 178 _ Tryz.underlying178
attribute [instance] und178
instance inf178 : Inf Tryz.prog 178 (.nilFunc) 1 8 := ⟨by kernel_rfl⟩
@[reducible] def und179 := @Und.mk Tryz.prog 179 _ Tryz.underlying179
attribute [instance] und179
instance inf179 : Inf Tryz.prog 179 (.agg #[.int .i64 (0), .slice none 0 0]) 2 32 := ⟨by kernel_rfl⟩
@[reducible] def und180 := @Und.mk Tryz.prog 180 _ Tryz.underlying180
attribute [instance] und180
instance inf180 : Inf Tryz.prog 180 (.agg #[.int .i64 (0), .slice none 0 0]) 2 32 := ⟨by kernel_rfl⟩
@[reducible] def und182 := @Und.mk Tryz.prog 182 _ Tryz.underlying182
attribute [instance] und182
instance inf182 : Inf Tryz.prog 182 (.nilFunc) 1 8 := ⟨by kernel_rfl⟩
@[reducible] def und183 := @Und.mk Tryz.prog 183 _ Tryz.underlying183
attribute [instance] und183
instance inf183 : Inf Tryz.prog 183 (.nilFunc) 1 8 := ⟨by kernel_rfl⟩
@[reducible] def und184 := @Und.mk Tryz.prog 184 _ Tryz.underlying184
attribute [instance] und184
instance inf184 : Inf Tryz.prog 184 (.nilFunc) 1 8 := ⟨by kernel_rfl⟩
@[reducible] def und185 := @Und.mk Tryz.prog 185 _ Tryz.underlying185
attribute [instance] und185
instance inf185 : Inf Tryz.prog 185 (.nilFunc) 1 8 := ⟨by kernel_rfl⟩
@[reducible] def und186 := @Und.mk Tryz.prog 186 _ Tryz.underlying186
attribute [instance] und186
instance inf186 : Inf Tryz.prog 186 (.nilFunc) 1 8 := ⟨by kernel_rfl⟩
@[reducible] def und187 := @Und.mk Tryz.prog 187 _ Tryz.underlying187
attribute [instance] und187
instance inf187 : Inf Tryz.prog 187 (.pointer none) 1 8 := ⟨by kernel_rfl⟩
@[reducible] def und189 := @Und.mk Tryz.prog 189 _ Tryz.underlying189
attribute [instance] und189
instance inf189 : Inf Tryz.prog 189 (.nilFunc) 1 8 := ⟨by kernel_rfl⟩
@[reducible] def und190 := @Und.mk Tryz.prog 190 _ Tryz.underlying190
attribute [instance] und190
instance inf190 : Inf Tryz.prog 190 (.nilFunc) 1 8 := ⟨by kernel_rfl⟩
@[reducible] def und191 := @Und.mk Tryz.prog 191 _ Tryz.underlying191
attribute [instance] und191
instance inf191 : Inf Tryz.prog 191 (.nilFunc) 1 8 := ⟨by kernel_rfl⟩
@[reducible] def und192 := @Und.mk Tryz.prog 192 _ Tryz.underlying192
attribute [instance] und192
instance inf192 : Inf Tryz.prog 192 (.nilFunc) 1 8 := ⟨by kernel_rfl⟩
@[reducible] def und193 := @Und.mk Tryz.prog 193 _ Tryz.underlying193
attribute [instance] und193
instance inf193 : Inf Tryz.prog 193 (.nilFunc) 1 8 := ⟨by kernel_rfl⟩
@[reducible] def und194 := @Und.mk Tryz.prog 194 _ Tryz.underlying194
attribute [instance] und194
instance inf194 : Inf Tryz.prog 194 (.nilFunc) 1 8 := ⟨by kernel_rfl⟩
@[reducible] def und195 := @Und.mk Tryz.prog 195 _ Tryz.underlying195
attribute [instance] und195
instance inf195 : Inf Tryz.prog 195 (.nilFunc) 1 8 := ⟨by kernel_rfl⟩
@[reducible] def und197 := @Und.mk Tryz.prog 197 _ Tryz.underlying197
attribute [instance] und197
instance inf197 : Inf Tryz.prog 197 (.nilFunc) 1 8 := ⟨by kernel_rfl⟩
@[reducible] def und198 := @Und.mk Tryz.prog 198 _ Tryz.underlying198
attribute [instance] und198
instance inf198 : Inf Tryz.prog 198 (.nilFunc) 1 8 := ⟨by kernel_rfl⟩
@[reducible] def und199 := @Und.mk Tryz.prog 199 _ Tryz.underlying199
attribute [instance] und199
instance inf199 : Inf Tryz.prog 199 (.nilFunc) 1 8 := ⟨by kernel_rfl⟩
@[reducible] def und200 := @Und.mk Tryz.prog 200 _ Tryz.underlying200
attribute [instance] und200
instance inf200 : Inf Tryz.prog 200 (.nilFunc) 1 8 := ⟨by kernel_rfl⟩
@[reducible] def und201 := @Und.mk Tryz.prog 201 _ Tryz.underlying201
attribute [instance] und201
instance inf201 : Inf Tryz.prog 201 (.agg #[.slice none 0 0, .slice none 0 0, .bool false]) 3 56 := ⟨by kernel_rfl⟩
@[reducible] def und202 := @Und.mk Tryz.prog 202 _ Tryz.underlying202
attribute [instance] und202
instance inf202 : Inf Tryz.prog 202 (.agg #[.slice none 0 0, .slice none 0 0, .bool false]) 3 56 := ⟨by kernel_rfl⟩
@[reducible] def und203 := @Und.mk Tryz.prog 203 _ Tryz.underlying203
attribute [instance] und203
instance inf203 : Inf Tryz.prog 203 (.nilFunc) 1 8 := ⟨by kernel_rfl⟩
@[reducible] def und204 := @Und.mk Tryz.prog 204 _ Tryz.underlying204
attribute [instance] und204
instance inf204 : Inf Tryz.prog 204 (.nilFunc) 1 8 := ⟨by kernel_rfl⟩
@[reducible] def und205 := @Und.mk Tryz.prog 205 _ Tryz.underlying205
attribute [instance] und205
instance inf205 : Inf Tryz.prog 205 (.nilFunc) 1 8 := ⟨by kernel_rfl⟩
@[reducible] def und207 := @Und.mk Tryz.prog 207 _ Tryz.underlying207
attribute [instance] und207
instance inf207 : Inf Tryz.prog 207 (.nilFunc) 1 8 := ⟨by kernel_rfl⟩
@[reducible] def und208 := @Und.mk Tryz.prog 208 _ Tryz.underlying208
attribute [instance] und208
instance inf208 : Inf Tryz.prog 208 (.nilFunc) 1 8 := ⟨by kernel_rfl⟩
@[reducible] def und209 := @Und.mk Tryz.prog 209 _ Tryz.underlying209
attribute [instance] und209
instance inf209 : Inf Tryz.prog 209 (.nilFunc) 1 8 := ⟨by kernel_rfl⟩
@[reducible] def und210 := @Und.mk Tryz.prog 210 _ Tryz.underlying210
attribute [instance] und210
instance inf210 : Inf Tryz.prog 210 (.nilFunc) 1 8 := ⟨by kernel_rfl⟩
@[reducible] def und211 := @Und.mk Tryz.prog 211 _ Tryz.underlying211
attribute [instance] und211
instance inf211 : Inf Tryz.prog 211 (.nilFunc) 1 8 := ⟨by kernel_rfl⟩
@[reducible] def und212 := @Und.mk Tryz.prog 212 _ Tryz.underlying212
attribute [instance] und212
instance inf212 : Inf Tryz.prog 212 (.nilFunc) 1 8 := ⟨by kernel_rfl⟩
@[reducible] def und213 := @Und.mk Tryz.prog 213 _ Tryz.underlying213
attribute [instance] und213
instance inf213 : Inf Tryz.prog 213 (.agg #[.pointer none, .pointer none, .pointer none, .string .empty]) 4 40 := ⟨by kernel_rfl⟩
@[reducible] def und214 := @Und.mk Tryz.prog 214 _ Tryz.underlying214
attribute [instance] und214
instance inf214 : Inf Tryz.prog 214 (.agg #[.pointer none, .pointer none, .pointer none, .string .empty]) 4 40 := ⟨by kernel_rfl⟩
@[reducible] def und215 := @Und.mk Tryz.prog 215 _ Tryz.underlying215
attribute [instance] und215
instance inf215 : Inf Tryz.prog 215 (.agg #[]) 0 0 := ⟨by kernel_rfl⟩
@[reducible] def und216 := @Und.mk Tryz.prog 216 _ Tryz.underlying216
attribute [instance] und216
instance inf216 : Inf Tryz.prog 216 (.agg #[]) 0 0 := ⟨by kernel_rfl⟩
@[reducible] def und217 := @Und.mk Tryz.prog 217 _ Tryz.underlying217
attribute [instance] und217
instance inf217 : Inf Tryz.prog 217 (.agg #[]) 0 0 := ⟨by kernel_rfl⟩
@[reducible] def und218 := @Und.mk Tryz.prog 218 _ Tryz.underlying218
attribute [instance] und218
instance inf218 : Inf Tryz.prog 218 (.nilFunc) 1 8 := ⟨by kernel_rfl⟩
@[reducible] def und219 := @Und.mk Tryz.prog 219 _ Tryz.underlying219
attribute [instance] und219
instance inf219 : Inf Tryz.prog 219 (.int .u8 (0)) 1 1 := ⟨by kernel_rfl⟩
@[reducible] def und220 := @Und.mk Tryz.prog 220 _ Tryz.underlying220
attribute [instance] und220
instance inf220 : Inf Tryz.prog 220 (.int .u8 (0)) 1 1 := ⟨by kernel_rfl⟩
@[reducible] def und221 := @Und.mk Tryz.prog 221 _ Tryz.underlying221
attribute [instance] und221
instance inf221 : Inf Tryz.prog 221 (.nilFunc) 1 8 := ⟨by kernel_rfl⟩
@[reducible] def und222 := @Und.mk Tryz.prog 222 _ Tryz.underlying222
attribute [instance] und222
instance inf222 : Inf Tryz.prog 222 (.pointer none) 1 8 := ⟨by kernel_rfl⟩
@[reducible] def und223 := @Und.mk Tryz.prog 223 _ Tryz.underlying223
attribute [instance] und223
instance inf223 : Inf Tryz.prog 223 (.int .i32 (0)) 1 4 := ⟨by kernel_rfl⟩
@[reducible] def und224 := @Und.mk Tryz.prog 224 _ Tryz.underlying224
attribute [instance] und224
instance inf224 : Inf Tryz.prog 224 (.int .i32 (0)) 1 4 := ⟨by kernel_rfl⟩
@[reducible] def und225 := @Und.mk Tryz.prog 225 _ Tryz.underlying225
attribute [instance] und225
instance inf225 : Inf Tryz.prog 225 (.agg #[.int .u64 (0), .int .u64 (0), .int .u32 (0), .int .u8 (0), .int .u8 (0), .int .u8 (0), .int .u8 (0), .nilFunc, .pointer none, .int .i32 (0), .int .i32 (0)]) 11 48 := ⟨by kernel_rfl⟩
@[reducible] def und226 := @Und.mk Tryz.prog 226 _ Tryz.underlying226
attribute [instance] und226
instance inf226 : Inf Tryz.prog 226 (.agg #[.int .u64 (0), .int .u64 (0), .int .u32 (0), .int .u8 (0), .int .u8 (0), .int .u8 (0), .int .u8 (0), .nilFunc, .pointer none, .int .i32 (0), .int .i32 (0)]) 11 48 := ⟨by kernel_rfl⟩
@[reducible] def und227 := @Und.mk Tryz.prog 227 _ Tryz.underlying227
attribute [instance] und227
instance inf227 : Inf Tryz.prog 227 (.pointer none) 1 8 := ⟨by kernel_rfl⟩
instance fnc2 : Fnc Tryz.prog 2 := ⟨_, Tryz.func2, by kernel_rfl, rfl⟩
instance fnc3 : Fnc Tryz.prog 3 := ⟨_, Tryz.func3, by kernel_rfl, rfl⟩
instance fnc4 : Fnc Tryz.prog 4 := ⟨_, Tryz.func4, by kernel_rfl, rfl⟩
instance fnc5 : Fnc Tryz.prog 5 := ⟨_, Tryz.func5, by kernel_rfl, rfl⟩
instance fnc6 : Fnc Tryz.prog 6 := ⟨_, Tryz.func6, by kernel_rfl, rfl⟩
instance fnc7 : Fnc Tryz.prog 7 := ⟨_, Tryz.func7, by kernel_rfl, rfl⟩
instance fnc8 : Fnc Tryz.prog 8 := ⟨_, Tryz.func8, by kernel_rfl, rfl⟩
instance fnc9 : Fnc Tryz.prog 9 := ⟨_, Tryz.func9, by kernel_rfl, rfl⟩
instance fnc10 : Fnc Tryz.prog 10 := ⟨_, Tryz.func10, by kernel_rfl, rfl⟩
instance fnc11 : Fnc Tryz.prog 11 := ⟨_, Tryz.func11, by kernel_rfl, rfl⟩
instance fnc12 : Fnc Tryz.prog 12 := ⟨_, Tryz.func12, by kernel_rfl, rfl⟩
instance fnc13 : Fnc Tryz.prog 13 := ⟨_, Tryz.func13, by kernel_rfl, rfl⟩
instance fnc14 : Fnc Tryz.prog 14 := ⟨_, Tryz.func14, by kernel_rfl, rfl⟩
instance fnc15 : Fnc Tryz.prog 15 := ⟨_, Tryz.func15, by kernel_rfl, rfl⟩
instance fnc16 : Fnc Tryz.prog 16 := ⟨_, Tryz.func16, by kernel_rfl, rfl⟩
instance fnc17 : Fnc Tryz.prog 17 := ⟨_, Tryz.func17, by kernel_rfl, rfl⟩
instance fnc18 : Fnc Tryz.prog 18 := ⟨_, Tryz.func18, by kernel_rfl, rfl⟩
instance fnc19 : Fnc Tryz.prog 19 := ⟨_, Tryz.func19, by kernel_rfl, rfl⟩
instance fnc20 : Fnc Tryz.prog 20 := ⟨_, Tryz.func20, by kernel_rfl, rfl⟩
instance fnc21 : Fnc Tryz.prog 21 := ⟨_, Tryz.func21, by kernel_rfl, rfl⟩
instance fnc22 : Fnc Tryz.prog 22 := ⟨_, Tryz.func22, by kernel_rfl, rfl⟩
instance fnc23 : Fnc Tryz.prog 23 := ⟨_, Tryz.func23, by kernel_rfl, rfl⟩
instance fnc24 : Fnc Tryz.prog 24 := ⟨_, Tryz.func24, by kernel_rfl, rfl⟩
instance fnc25 : Fnc Tryz.prog 25 := ⟨_, Tryz.func25, by kernel_rfl, rfl⟩
instance fnc26 : Fnc Tryz.prog 26 := ⟨_, Tryz.func26, by kernel_rfl, rfl⟩
instance fnc27 : Fnc Tryz.prog 27 := ⟨_, Tryz.func27, by kernel_rfl, rfl⟩
instance fnc28 : Fnc Tryz.prog 28 := ⟨_, Tryz.func28, by kernel_rfl, rfl⟩
instance fnc29 : Fnc Tryz.prog 29 := ⟨_, Tryz.func29, by kernel_rfl, rfl⟩
instance fnc30 : Fnc Tryz.prog 30 := ⟨_, Tryz.func30, by kernel_rfl, rfl⟩
instance fnc31 : Fnc Tryz.prog 31 := ⟨_, Tryz.func31, by kernel_rfl, rfl⟩
instance fnc32 : Fnc Tryz.prog 32 := ⟨_, Tryz.func32, by kernel_rfl, rfl⟩
instance fnc33 : Fnc Tryz.prog 33 := ⟨_, Tryz.func33, by kernel_rfl, rfl⟩
instance fnc34 : Fnc Tryz.prog 34 := ⟨_, Tryz.func34, by kernel_rfl, rfl⟩
instance fnc35 : Fnc Tryz.prog 35 := ⟨_, Tryz.func35, by kernel_rfl, rfl⟩
instance fnc36 : Fnc Tryz.prog 36 := ⟨_, Tryz.func36, by kernel_rfl, rfl⟩
instance fnc37 : Fnc Tryz.prog 37 := ⟨_, Tryz.func37, by kernel_rfl, rfl⟩
instance fnc38 : Fnc Tryz.prog 38 := ⟨_, Tryz.func38, by kernel_rfl, rfl⟩
instance fnc39 : Fnc Tryz.prog 39 := ⟨_, Tryz.func39, by kernel_rfl, rfl⟩
instance fnc40 : Fnc Tryz.prog 40 := ⟨_, Tryz.func40, by kernel_rfl, rfl⟩
instance fnc41 : Fnc Tryz.prog 41 := ⟨_, Tryz.func41, by kernel_rfl, rfl⟩
instance fnc42 : Fnc Tryz.prog 42 := ⟨_, Tryz.func42, by kernel_rfl, rfl⟩
instance fnc43 : Fnc Tryz.prog 43 := ⟨_, Tryz.func43, by kernel_rfl, rfl⟩
instance fnc44 : Fnc Tryz.prog 44 := ⟨_, Tryz.func44, by kernel_rfl, rfl⟩
instance fnc45 : Fnc Tryz.prog 45 := ⟨_, Tryz.func45, by kernel_rfl, rfl⟩
instance fnc46 : Fnc Tryz.prog 46 := ⟨_, Tryz.func46, by kernel_rfl, rfl⟩
instance fnc47 : Fnc Tryz.prog 47 := ⟨_, Tryz.func47, by kernel_rfl, rfl⟩
instance fnc48 : Fnc Tryz.prog 48 := ⟨_, Tryz.func48, by kernel_rfl, rfl⟩
instance fnc49 : Fnc Tryz.prog 49 := ⟨_, Tryz.func49, by kernel_rfl, rfl⟩
instance fnc50 : Fnc Tryz.prog 50 := ⟨_, Tryz.func50, by kernel_rfl, rfl⟩
instance fnc51 : Fnc Tryz.prog 51 := ⟨_, Tryz.func51, by kernel_rfl, rfl⟩
instance fnc52 : Fnc Tryz.prog 52 := ⟨_, Tryz.func52, by kernel_rfl, rfl⟩
instance fnc53 : Fnc Tryz.prog 53 := ⟨_, Tryz.func53, by kernel_rfl, rfl⟩
instance fnc54 : Fnc Tryz.prog 54 := ⟨_, Tryz.func54, by kernel_rfl, rfl⟩
instance fnc55 : Fnc Tryz.prog 55 := ⟨_, Tryz.func55, by kernel_rfl, rfl⟩
instance fnc56 : Fnc Tryz.prog 56 := ⟨_, Tryz.func56, by kernel_rfl, rfl⟩
instance fnc57 : Fnc Tryz.prog 57 := ⟨_, Tryz.func57, by kernel_rfl, rfl⟩
instance fnc58 : Fnc Tryz.prog 58 := ⟨_, Tryz.func58, by kernel_rfl, rfl⟩
instance fnc59 : Fnc Tryz.prog 59 := ⟨_, Tryz.func59, by kernel_rfl, rfl⟩
instance fnc60 : Fnc Tryz.prog 60 := ⟨_, Tryz.func60, by kernel_rfl, rfl⟩
instance fnc61 : Fnc Tryz.prog 61 := ⟨_, Tryz.func61, by kernel_rfl, rfl⟩
instance fnc62 : Fnc Tryz.prog 62 := ⟨_, Tryz.func62, by kernel_rfl, rfl⟩
instance fnc63 : Fnc Tryz.prog 63 := ⟨_, Tryz.func63, by kernel_rfl, rfl⟩
instance fnc64 : Fnc Tryz.prog 64 := ⟨_, Tryz.func64, by kernel_rfl, rfl⟩
instance fnc65 : Fnc Tryz.prog 65 := ⟨_, Tryz.func65, by kernel_rfl, rfl⟩
instance fnc66 : Fnc Tryz.prog 66 := ⟨_, Tryz.func66, by kernel_rfl, rfl⟩
instance fnc67 : Fnc Tryz.prog 67 := ⟨_, Tryz.func67, by kernel_rfl, rfl⟩
instance fnc68 : Fnc Tryz.prog 68 := ⟨_, Tryz.func68, by kernel_rfl, rfl⟩
instance fnc69 : Fnc Tryz.prog 69 := ⟨_, Tryz.func69, by kernel_rfl, rfl⟩
instance fnc70 : Fnc Tryz.prog 70 := ⟨_, Tryz.func70, by kernel_rfl, rfl⟩
instance fnc71 : Fnc Tryz.prog 71 := ⟨_, Tryz.func71, by kernel_rfl, rfl⟩
instance fnc72 : Fnc Tryz.prog 72 := ⟨_, Tryz.func72, by kernel_rfl, rfl⟩
instance fnc73 : Fnc Tryz.prog 73 := ⟨_, Tryz.func73, by kernel_rfl, rfl⟩
instance fnc74 : Fnc Tryz.prog 74 := ⟨_, Tryz.func74, by kernel_rfl, rfl⟩
instance fnc75 : Fnc Tryz.prog 75 := ⟨_, Tryz.func75, by kernel_rfl, rfl⟩
instance fnc76 : Fnc Tryz.prog 76 := ⟨_, Tryz.func76, by kernel_rfl, rfl⟩
instance fnc77 : Fnc Tryz.prog 77 := ⟨_, Tryz.func77, by kernel_rfl, rfl⟩
instance fnc78 : Fnc Tryz.prog 78 := ⟨_, Tryz.func78, by kernel_rfl, rfl⟩
instance fnc79 : Fnc Tryz.prog 79 := ⟨_, Tryz.func79, by kernel_rfl, rfl⟩
instance fnc80 : Fnc Tryz.prog 80 := ⟨_, Tryz.func80, by kernel_rfl, rfl⟩
instance fnc81 : Fnc Tryz.prog 81 := ⟨_, Tryz.func81, by kernel_rfl, rfl⟩
instance fnc82 : Fnc Tryz.prog 82 := ⟨_, Tryz.func82, by kernel_rfl, rfl⟩
instance fnc83 : Fnc Tryz.prog 83 := ⟨_, Tryz.func83, by kernel_rfl, rfl⟩
instance fnc84 : Fnc Tryz.prog 84 := ⟨_, Tryz.func84, by kernel_rfl, rfl⟩
instance fnc85 : Fnc Tryz.prog 85 := ⟨_, Tryz.func85, by kernel_rfl, rfl⟩
instance fnc86 : Fnc Tryz.prog 86 := ⟨_, Tryz.func86, by kernel_rfl, rfl⟩
instance fnc87 : Fnc Tryz.prog 87 := ⟨_, Tryz.func87, by kernel_rfl, rfl⟩
instance fnc88 : Fnc Tryz.prog 88 := ⟨_, Tryz.func88, by kernel_rfl, rfl⟩
instance fnc89 : Fnc Tryz.prog 89 := ⟨_, Tryz.func89, by kernel_rfl, rfl⟩
instance fnc90 : Fnc Tryz.prog 90 := ⟨_, Tryz.func90, by kernel_rfl, rfl⟩
instance fnc91 : Fnc Tryz.prog 91 := ⟨_, Tryz.func91, by kernel_rfl, rfl⟩
instance fnc92 : Fnc Tryz.prog 92 := ⟨_, Tryz.func92, by kernel_rfl, rfl⟩
instance fnc93 : Fnc Tryz.prog 93 := ⟨_, Tryz.func93, by kernel_rfl, rfl⟩
instance fnc94 : Fnc Tryz.prog 94 := ⟨_, Tryz.func94, by kernel_rfl, rfl⟩
instance fnc95 : Fnc Tryz.prog 95 := ⟨_, Tryz.func95, by kernel_rfl, rfl⟩
instance fnc96 : Fnc Tryz.prog 96 := ⟨_, Tryz.func96, by kernel_rfl, rfl⟩
instance fnc97 : Fnc Tryz.prog 97 := ⟨_, Tryz.func97, by kernel_rfl, rfl⟩
instance fnc98 : Fnc Tryz.prog 98 := ⟨_, Tryz.func98, by kernel_rfl, rfl⟩
instance fnc99 : Fnc Tryz.prog 99 := ⟨_, Tryz.func99, by kernel_rfl, rfl⟩
instance fnc100 : Fnc Tryz.prog 100 := ⟨_, Tryz.func100, by kernel_rfl, rfl⟩
instance fnc101 : Fnc Tryz.prog 101 := ⟨_, Tryz.func101, by kernel_rfl, rfl⟩
instance fnc102 : Fnc Tryz.prog 102 := ⟨_, Tryz.func102, by kernel_rfl, rfl⟩
instance fnc103 : Fnc Tryz.prog 103 := ⟨_, Tryz.func103, by kernel_rfl, rfl⟩
instance fnc104 : Fnc Tryz.prog 104 := ⟨_, Tryz.func104, by kernel_rfl, rfl⟩
instance fnc105 : Fnc Tryz.prog 105 := ⟨_, Tryz.func105, by kernel_rfl, rfl⟩
instance fnc106 : Fnc Tryz.prog 106 := ⟨_, Tryz.func106, by kernel_rfl, rfl⟩
instance fnc107 : Fnc Tryz.prog 107 := ⟨_, Tryz.func107, by kernel_rfl, rfl⟩
instance fnc108 : Fnc Tryz.prog 108 := ⟨_, Tryz.func108, by kernel_rfl, rfl⟩
instance fnc109 : Fnc Tryz.prog 109 := ⟨_, Tryz.func109, by kernel_rfl, rfl⟩
instance fnc110 : Fnc Tryz.prog 110 := ⟨_, Tryz.func110, by kernel_rfl, rfl⟩
instance fnc111 : Fnc Tryz.prog 111 := ⟨_, Tryz.func111, by kernel_rfl, rfl⟩
instance fnc112 : Fnc Tryz.prog 112 := ⟨_, Tryz.func112, by kernel_rfl, rfl⟩
instance fnc113 : Fnc Tryz.prog 113 := ⟨_, Tryz.func113, by kernel_rfl, rfl⟩
instance fnc114 : Fnc Tryz.prog 114 := ⟨_, Tryz.func114, by kernel_rfl, rfl⟩
instance fnc115 : Fnc Tryz.prog 115 := ⟨_, Tryz.func115, by kernel_rfl, rfl⟩
instance fnc116 : Fnc Tryz.prog 116 := ⟨_, Tryz.func116, by kernel_rfl, rfl⟩
instance fnc117 : Fnc Tryz.prog 117 := ⟨_, Tryz.func117, by kernel_rfl, rfl⟩
instance fnc118 : Fnc Tryz.prog 118 := ⟨_, Tryz.func118, by kernel_rfl, rfl⟩
instance fnc119 : Fnc Tryz.prog 119 := ⟨_, Tryz.func119, by kernel_rfl, rfl⟩
instance fnc120 : Fnc Tryz.prog 120 := ⟨_, Tryz.func120, by kernel_rfl, rfl⟩
instance fnc121 : Fnc Tryz.prog 121 := ⟨_, Tryz.func121, by kernel_rfl, rfl⟩
instance fnc122 : Fnc Tryz.prog 122 := ⟨_, Tryz.func122, by kernel_rfl, rfl⟩
instance fnc123 : Fnc Tryz.prog 123 := ⟨_, Tryz.func123, by kernel_rfl, rfl⟩
instance fnc124 : Fnc Tryz.prog 124 := ⟨_, Tryz.func124, by kernel_rfl, rfl⟩
instance fnc125 : Fnc Tryz.prog 125 := ⟨_, Tryz.func125, by kernel_rfl, rfl⟩
instance fnc126 : Fnc Tryz.prog 126 := ⟨_, Tryz.func126, by kernel_rfl, rfl⟩
instance fnc127 : Fnc Tryz.prog 127 := ⟨_, Tryz.func127, by kernel_rfl, rfl⟩
instance fnc128 : Fnc Tryz.prog 128 := ⟨_, Tryz.func128, by kernel_rfl, rfl⟩
instance fnc129 : Fnc Tryz.prog 129 := ⟨_, Tryz.func129, by kernel_rfl, rfl⟩
instance fnc130 : Fnc Tryz.prog 130 := ⟨_, Tryz.func130, by kernel_rfl, rfl⟩
instance fnc131 : Fnc Tryz.prog 131 := ⟨_, Tryz.func131, by kernel_rfl, rfl⟩
instance fnc132 : Fnc Tryz.prog 132 := ⟨_, Tryz.func132, by kernel_rfl, rfl⟩
instance fnc133 : Fnc Tryz.prog 133 := ⟨_, Tryz.func133, by kernel_rfl, rfl⟩
instance fnc134 : Fnc Tryz.prog 134 := ⟨_, Tryz.func134, by kernel_rfl, rfl⟩
instance fnc135 : Fnc Tryz.prog 135 := ⟨_, Tryz.func135, by kernel_rfl, rfl⟩
instance fnc136 : Fnc Tryz.prog 136 := ⟨_, Tryz.func136, by kernel_rfl, rfl⟩
instance fnc137 : Fnc Tryz.prog 137 := ⟨_, Tryz.func137, by kernel_rfl, rfl⟩
instance fnc138 : Fnc Tryz.prog 138 := ⟨_, Tryz.func138, by kernel_rfl, rfl⟩
instance fnc139 : Fnc Tryz.prog 139 := ⟨_, Tryz.func139, by kernel_rfl, rfl⟩
instance fnc140 : Fnc Tryz.prog 140 := ⟨_, Tryz.func140, by kernel_rfl, rfl⟩
instance fnc141 : Fnc Tryz.prog 141 := ⟨_, Tryz.func141, by kernel_rfl, rfl⟩
instance fnc142 : Fnc Tryz.prog 142 := ⟨_, Tryz.func142, by kernel_rfl, rfl⟩
instance fnc143 : Fnc Tryz.prog 143 := ⟨_, Tryz.func143, by kernel_rfl, rfl⟩
instance fnc144 : Fnc Tryz.prog 144 := ⟨_, Tryz.func144, by kernel_rfl, rfl⟩
instance fnc145 : Fnc Tryz.prog 145 := ⟨_, Tryz.func145, by kernel_rfl, rfl⟩
instance fnc146 : Fnc Tryz.prog 146 := ⟨_, Tryz.func146, by kernel_rfl, rfl⟩
instance fnc147 : Fnc Tryz.prog 147 := ⟨_, Tryz.func147, by kernel_rfl, rfl⟩
instance fnc148 : Fnc Tryz.prog 148 := ⟨_, Tryz.func148, by kernel_rfl, rfl⟩
instance fnc149 : Fnc Tryz.prog 149 := ⟨_, Tryz.func149, by kernel_rfl, rfl⟩
instance fnc150 : Fnc Tryz.prog 150 := ⟨_, Tryz.func150, by kernel_rfl, rfl⟩
instance fnc151 : Fnc Tryz.prog 151 := ⟨_, Tryz.func151, by kernel_rfl, rfl⟩
instance fnc152 : Fnc Tryz.prog 152 := ⟨_, Tryz.func152, by kernel_rfl, rfl⟩
instance fnc153 : Fnc Tryz.prog 153 := ⟨_, Tryz.func153, by kernel_rfl, rfl⟩
instance fnc154 : Fnc Tryz.prog 154 := ⟨_, Tryz.func154, by kernel_rfl, rfl⟩
instance fnc155 : Fnc Tryz.prog 155 := ⟨_, Tryz.func155, by kernel_rfl, rfl⟩
instance fnc156 : Fnc Tryz.prog 156 := ⟨_, Tryz.func156, by kernel_rfl, rfl⟩
instance fnc157 : Fnc Tryz.prog 157 := ⟨_, Tryz.func157, by kernel_rfl, rfl⟩
instance fnc158 : Fnc Tryz.prog 158 := ⟨_, Tryz.func158, by kernel_rfl, rfl⟩
instance fnc159 : Fnc Tryz.prog 159 := ⟨_, Tryz.func159, by kernel_rfl, rfl⟩
instance fnc160 : Fnc Tryz.prog 160 := ⟨_, Tryz.func160, by kernel_rfl, rfl⟩
instance fnc161 : Fnc Tryz.prog 161 := ⟨_, Tryz.func161, by kernel_rfl, rfl⟩
instance fnc162 : Fnc Tryz.prog 162 := ⟨_, Tryz.func162, by kernel_rfl, rfl⟩
instance fnc163 : Fnc Tryz.prog 163 := ⟨_, Tryz.func163, by kernel_rfl, rfl⟩
instance fnc164 : Fnc Tryz.prog 164 := ⟨_, Tryz.func164, by kernel_rfl, rfl⟩
instance fnc165 : Fnc Tryz.prog 165 := ⟨_, Tryz.func165, by kernel_rfl, rfl⟩
instance fnc166 : Fnc Tryz.prog 166 := ⟨_, Tryz.func166, by kernel_rfl, rfl⟩
instance fnc167 : Fnc Tryz.prog 167 := ⟨_, Tryz.func167, by kernel_rfl, rfl⟩
instance fnc168 : Fnc Tryz.prog 168 := ⟨_, Tryz.func168, by kernel_rfl, rfl⟩
instance fnc169 : Fnc Tryz.prog 169 := ⟨_, Tryz.func169, by kernel_rfl, rfl⟩
instance fnc170 : Fnc Tryz.prog 170 := ⟨_, Tryz.func170, by kernel_rfl, rfl⟩
instance fnc171 : Fnc Tryz.prog 171 := ⟨_, Tryz.func171, by kernel_rfl, rfl⟩
instance fnc172 : Fnc Tryz.prog 172 := ⟨_, Tryz.func172, by kernel_rfl, rfl⟩
instance fnc173 : Fnc Tryz.prog 173 := ⟨_, Tryz.func173, by kernel_rfl, rfl⟩
instance fnc174 : Fnc Tryz.prog 174 := ⟨_, Tryz.func174, by kernel_rfl, rfl⟩
instance fnc175 : Fnc Tryz.prog 175 := ⟨_, Tryz.func175, by kernel_rfl, rfl⟩
instance fnc176 : Fnc Tryz.prog 176 := ⟨_, Tryz.func176, by kernel_rfl, rfl⟩
instance fnc177 : Fnc Tryz.prog 177 := ⟨_, Tryz.func177, by kernel_rfl, rfl⟩
instance fnc178 : Fnc Tryz.prog 178 := ⟨_, Tryz.func178, by kernel_rfl, rfl⟩
instance fnc179 : Fnc Tryz.prog 179 := ⟨_, Tryz.func179, by kernel_rfl, rfl⟩
instance fnc180 : Fnc Tryz.prog 180 := ⟨_, Tryz.func180, by kernel_rfl, rfl⟩
instance fnc181 : Fnc Tryz.prog 181 := ⟨_, Tryz.func181, by kernel_rfl, rfl⟩
instance fnc182 : Fnc Tryz.prog 182 := ⟨_, Tryz.func182, by kernel_rfl, rfl⟩
instance fnc183 : Fnc Tryz.prog 183 := ⟨_, Tryz.func183, by kernel_rfl, rfl⟩
instance fnc184 : Fnc Tryz.prog 184 := ⟨_, Tryz.func184, by kernel_rfl, rfl⟩
instance fnc185 : Fnc Tryz.prog 185 := ⟨_, Tryz.func185, by kernel_rfl, rfl⟩
instance fnc186 : Fnc Tryz.prog 186 := ⟨_, Tryz.func186, by kernel_rfl, rfl⟩
instance fnc187 : Fnc Tryz.prog 187 := ⟨_, Tryz.func187, by kernel_rfl, rfl⟩
instance fnc188 : Fnc Tryz.prog 188 := ⟨_, Tryz.func188, by kernel_rfl, rfl⟩
instance fnc189 : Fnc Tryz.prog 189 := ⟨_, Tryz.func189, by kernel_rfl, rfl⟩
instance fnc190 : Fnc Tryz.prog 190 := ⟨_, Tryz.func190, by kernel_rfl, rfl⟩
instance fnc191 : Fnc Tryz.prog 191 := ⟨_, Tryz.func191, by kernel_rfl, rfl⟩
instance fnc192 : Fnc Tryz.prog 192 := ⟨_, Tryz.func192, by kernel_rfl, rfl⟩
instance fnc193 : Fnc Tryz.prog 193 := ⟨_, Tryz.func193, by kernel_rfl, rfl⟩
instance fnc194 : Fnc Tryz.prog 194 := ⟨_, Tryz.func194, by kernel_rfl, rfl⟩
instance fnc195 : Fnc Tryz.prog 195 := ⟨_, Tryz.func195, by kernel_rfl, rfl⟩
instance fnc196 : Fnc Tryz.prog 196 := ⟨_, Tryz.func196, by kernel_rfl, rfl⟩
instance fnc197 : Fnc Tryz.prog 197 := ⟨_, Tryz.func197, by kernel_rfl, rfl⟩
instance fnc198 : Fnc Tryz.prog 198 := ⟨_, Tryz.func198, by kernel_rfl, rfl⟩
instance fnc199 : Fnc Tryz.prog 199 := ⟨_, Tryz.func199, by kernel_rfl, rfl⟩
instance fnc200 : Fnc Tryz.prog 200 := ⟨_, Tryz.func200, by kernel_rfl, rfl⟩
instance fnc201 : Fnc Tryz.prog 201 := ⟨_, Tryz.func201, by kernel_rfl, rfl⟩
instance fnc202 : Fnc Tryz.prog 202 := ⟨_, Tryz.func202, by kernel_rfl, rfl⟩
instance fnc203 : Fnc Tryz.prog 203 := ⟨_, Tryz.func203, by kernel_rfl, rfl⟩
instance fnc204 : Fnc Tryz.prog 204 := ⟨_, Tryz.func204, by kernel_rfl, rfl⟩
instance fnc205 : Fnc Tryz.prog 205 := ⟨_, Tryz.func205, by kernel_rfl, rfl⟩
instance fnc206 : Fnc Tryz.prog 206 := ⟨_, Tryz.func206, by kernel_rfl, rfl⟩
instance fnc207 : Fnc Tryz.prog 207 := ⟨_, Tryz.func207, by kernel_rfl, rfl⟩
instance fnc208 : Fnc Tryz.prog 208 := ⟨_, Tryz.func208, by kernel_rfl, rfl⟩
instance fnc209 : Fnc Tryz.prog 209 := ⟨_, Tryz.func209, by kernel_rfl, rfl⟩
instance fnc210 : Fnc Tryz.prog 210 := ⟨_, Tryz.func210, by kernel_rfl, rfl⟩
instance fnc211 : Fnc Tryz.prog 211 := ⟨_, Tryz.func211, by kernel_rfl, rfl⟩
instance fnc212 : Fnc Tryz.prog 212 := ⟨_, Tryz.func212, by kernel_rfl, rfl⟩
instance fnc213 : Fnc Tryz.prog 213 := ⟨_, Tryz.func213, by kernel_rfl, rfl⟩
instance fnc214 : Fnc Tryz.prog 214 := ⟨_, Tryz.func214, by kernel_rfl, rfl⟩
instance fnc215 : Fnc Tryz.prog 215 := ⟨_, Tryz.func215, by kernel_rfl, rfl⟩
instance fnc216 : Fnc Tryz.prog 216 := ⟨_, Tryz.func216, by kernel_rfl, rfl⟩
instance fnc217 : Fnc Tryz.prog 217 := ⟨_, Tryz.func217, by kernel_rfl, rfl⟩
instance fnc218 : Fnc Tryz.prog 218 := ⟨_, Tryz.func218, by kernel_rfl, rfl⟩
instance fnc219 : Fnc Tryz.prog 219 := ⟨_, Tryz.func219, by kernel_rfl, rfl⟩
instance fnc220 : Fnc Tryz.prog 220 := ⟨_, Tryz.func220, by kernel_rfl, rfl⟩
instance fnc221 : Fnc Tryz.prog 221 := ⟨_, Tryz.func221, by kernel_rfl, rfl⟩
instance fnc222 : Fnc Tryz.prog 222 := ⟨_, Tryz.func222, by kernel_rfl, rfl⟩
instance fnc223 : Fnc Tryz.prog 223 := ⟨_, Tryz.func223, by kernel_rfl, rfl⟩
instance fnc224 : Fnc Tryz.prog 224 := ⟨_, Tryz.func224, by kernel_rfl, rfl⟩
instance fnc225 : Fnc Tryz.prog 225 := ⟨_, Tryz.func225, by kernel_rfl, rfl⟩
instance fnc226 : Fnc Tryz.prog 226 := ⟨_, Tryz.func226, by kernel_rfl, rfl⟩
end Go.Proofs.YtjpkmpihmilgoaaGreat.Vc
