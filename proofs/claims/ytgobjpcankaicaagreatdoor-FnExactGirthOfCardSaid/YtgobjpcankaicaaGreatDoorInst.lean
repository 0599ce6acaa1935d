/-
  The rows of the program's tables, as instances of the calculus. Conditions: none. Printed by a program.
-/
import Derived.Test.YtgobjpcankaicaaGreatDoorZa
import Derived.Test.YtgobjpcankaicaaGreatDoorProg
import Derived.KernelRfl
namespace Go.Proofs.YtgobjpcankaicaaGreatDoor.Vc
@[reducible] def und1 := @Und.mk Tryz.prog 1 _ Tryz.underlying1
attribute [instance] und1
instance inf1 : Inf Tryz.prog 1 (.nilFunc) 1 8 := ⟨by kernel_rfl⟩
@[reducible] def und2 := @Und.mk Tryz.prog 2 _ Tryz.underlying2
attribute [instance] und2
instance inf2 : Inf Tryz.prog 2 (.int .i64 (0)) 1 8 := ⟨by kernel_rfl⟩
@[reducible] def und3 := @Und.mk Tryz.prog 3 _ Tryz.underlying3
attribute [instance] und3
instance inf3 : Inf Tryz.prog 3 (.int .i64 (0)) 1 8 := ⟨by kernel_rfl⟩
@[reducible] def und4 := @Und.mk Tryz.prog 4 _ Tryz.underlying4
attribute [instance] und4
instance inf4 : Inf Tryz.prog 4 (.bool false) 1 1 := ⟨by kernel_rfl⟩
@[reducible] def und5 := @Und.mk Tryz.prog 5 _ Tryz.underlying5
attribute [instance] und5
instance inf5 : Inf Tryz.prog 5 (.int .u8 (0)) 1 1 := ⟨by kernel_rfl⟩
@[reducible] def und6 := @Und.mk Tryz.prog 6 _ Tryz.underlying6
attribute [instance] und6
instance inf6 : Inf Tryz.prog 6 (.int .u8 (0)) 1 1 := ⟨by kernel_rfl⟩
@[reducible] def und7 := @Und.mk Tryz.prog 7 _ Tryz.underlying7
attribute [instance] und7
instance inf7 : Inf Tryz.prog 7 (.agg #[.int .i64 (0), .int .i64 (0), .bool false, .int .u8 (0)]) 4 24 := ⟨by kernel_rfl⟩
@[reducible] def und8 := @Und.mk Tryz.prog 8 _ Tryz.underlying8
attribute [instance] und8
instance inf8 : Inf Tryz.prog 8 (.agg #[.int .i64 (0), .int .i64 (0), .bool false, .int .u8 (0)]) 4 24 := ⟨by kernel_rfl⟩
@[reducible] def und9 := @Und.mk Tryz.prog 9 _ Tryz.underlying9
attribute [instance] und9
instance inf9 : Inf Tryz.prog 9 (.string .empty) 1 16 := ⟨by kernel_rfl⟩
@[reducible] def und10 := @Und.mk Tryz.prog 10 _ Tryz.underlying10
attribute [instance] und10
instance inf10 : Inf Tryz.prog 10 (.string .empty) 1 16 := ⟨by kernel_rfl⟩
@[reducible] def und11 := @Und.mk Tryz.prog 11 _ Tryz.underlying11
attribute [instance] und11
instance inf11 : Inf Tryz.prog 11 (.string .empty) 1 16 := ⟨by kernel_rfl⟩
@[reducible] def und12 := @Und.mk Tryz.prog 12 _ Tryz.underlying12
attribute [instance] und12
instance inf12 : Inf Tryz.prog 12 (.int .u64 (0)) 1 8 := ⟨by kernel_rfl⟩
@[reducible] def und13 := @Und.mk Tryz.prog 13 _ Tryz.underlying13
attribute [instance] und13
instance inf13 : Inf Tryz.prog 13 (.agg #[.string .empty, .int .u64 (0)]) 2 24 := ⟨by kernel_rfl⟩
@[reducible] def und14 := @Und.mk Tryz.prog 14 _ Tryz.underlying14
attribute [instance] und14
instance inf14 : Inf Tryz.prog 14 (.agg #[.string .empty, .int .u64 (0)]) 2 24 := ⟨by kernel_rfl⟩
@[reducible] def und15 := @Und.mk Tryz.prog 15 _ Tryz.underlying15
attribute [instance] und15
instance inf15 : Inf Tryz.prog 15 (.pointer none) 1 8 := ⟨by kernel_rfl⟩
@[reducible] def und16 := @Und.mk Tryz.prog 16 _ Tryz.underlying16
attribute [instance] und16
instance inf16 : Inf Tryz.prog 16 (.pointer none) 1 8 := ⟨by kernel_rfl⟩
@[reducible] def und17 := @Und.mk Tryz.prog 17 _ Tryz.underlying17
attribute [instance] und17
instance inf17 : Inf Tryz.prog 17 (.pointer none) 1 8 := ⟨by kernel_rfl⟩
@[reducible] def und18 := @Und.mk Tryz.prog 18 _ Tryz.underlying18
attribute [instance] und18
instance inf18 : Inf Tryz.prog 18 (.agg #[.pointer none]) 1 8 := ⟨by kernel_rfl⟩
@[reducible] def und19 := @Und.mk Tryz.prog 19 _ Tryz.underlying19
attribute [instance] und19
instance inf19 : Inf Tryz.prog 19 (.agg #[.pointer none]) 1 8 := ⟨by kernel_rfl⟩
@[reducible] def und20 := @Und.mk Tryz.prog 20 _ Tryz.underlying20
attribute [instance] und20
instance inf20 : Inf Tryz.prog 20 (.nilIface) 1 16 := ⟨by kernel_rfl⟩
@[reducible] def und21 := @Und.mk Tryz.prog 21 _ Tryz.underlying21
attribute [instance] und21
instance inf21 : Inf Tryz.prog 21 (.int .i32 (0)) 1 4 := ⟨by kernel_rfl⟩
@[reducible] def und22 := @Und.mk Tryz.prog 22 _ Tryz.underlying22
attribute [instance] und22
instance inf22 : Inf Tryz.prog 22 (.slice none 0 0) 1 24 := ⟨by kernel_rfl⟩
@[reducible] def und23 := @Und.mk Tryz.prog 23 _ Tryz.underlying23
attribute [instance] und23
instance inf23 : Inf Tryz.prog 23 (.agg #[.slice none 0 0]) 1 24 := ⟨by kernel_rfl⟩
@[reducible] def und24 := @Und.mk Tryz.prog 24 _ Tryz.underlying24
attribute [instance] und24
instance inf24 : Inf Tryz.prog 24 (.agg #[.slice none 0 0]) 1 24 := ⟨by kernel_rfl⟩
@[reducible] def und25 := @Und.mk Tryz.prog 25 _ Tryz.underlying25
attribute [instance] und25
instance inf25 : Inf Tryz.prog 25 (.nilFunc) 1 8 := ⟨by kernel_rfl⟩
@[reducible] def und27 := @Und.mk Tryz.prog 27 _ Tryz.underlying27
attribute [instance] und27
instance inf27 : Inf Tryz.prog 27 (.nilFunc) 1 8 := ⟨by kernel_rfl⟩
@[reducible] def und28 := @Und.mk Tryz.prog 28 _ Tryz.underlying28
attribute [instance] und28
instance inf28 : Inf Tryz.prog 28 (.agg #[.slice none 0 0]) 1 24 := ⟨by kernel_rfl⟩
@[reducible] def und29 := @Und.mk Tryz.prog 29 _ Tryz.underlying29
attribute [instance] und29
instance inf29 : Inf Tryz.prog 29 (.nilFunc) 1 8 := ⟨by kernel_rfl⟩
@[reducible] def und30 := @Und.mk Tryz.prog 30 _ Tryz.underlying30
attribute [instance] und30
instance inf30 : Inf Tryz.prog 30 (.nilFunc) 1 8 := ⟨by kernel_rfl⟩
@[reducible] def und31 := @Und.mk Tryz.prog 31 _ Tryz.underlying31
attribute [instance] und31
instance inf31 : Inf Tryz.prog 31 (.nilFunc) 1 8 := ⟨by kernel_rfl⟩
@[reducible] def und32 := @Und.mk Tryz.prog 32 _ Tryz.underlying32
attribute [instance] und32
instance inf32 : Inf Tryz.prog 32 (.nilFunc) 1 8 := ⟨by kernel_rfl⟩
@[reducible] def und33 := @Und.mk Tryz.prog 33 _ Tryz.underlying33
attribute [instance] und33
instance inf33 : Inf Tryz.prog 33 (.nilFunc) 1 8 := ⟨by kernel_rfl⟩
@[reducible] def und34 := @Und.mk Tryz.prog 34 _ Tryz.underlying34
attribute [instance] und34
instance inf34 : Inf Tryz.prog 34 (.nilFunc) 1 8 := ⟨by kernel_rfl⟩
@[reducible] def und35 := @Und.mk Tryz.prog 35 _ Tryz.underlying35
attribute [instance] und35
instance inf35 : Inf Tryz.prog 35 (.slice none 0 0) 1 24 := ⟨by kernel_rfl⟩
@[reducible] def und36 := @Und.mk Tryz.prog 36 _ Tryz.underlying36
attribute [instance] und36
instance inf36 : Inf Tryz.prog 36 (.nilFunc) 1 8 := ⟨by kernel_rfl⟩
@[reducible] def und37 := @Und.mk Tryz.prog 37 _ Tryz.underlying37
attribute [instance] und37
instance inf37 : Inf Tryz.prog 37 (.nilFunc) 1 8 := ⟨by kernel_rfl⟩
@[reducible] def und38 := @Und.mk Tryz.prog 38 _ Tryz.underlying38
attribute [instance] und38
instance inf38 : Inf Tryz.prog 38 (.nilFunc) 1 8 := ⟨by kernel_rfl⟩
@[reducible] def und39 := @Und.mk Tryz.prog 39 _ Tryz.underlying39
attribute [instance] und39
instance inf39 : Inf Tryz.prog 39 (.nilFunc) 1 8 := ⟨by kernel_rfl⟩
@[reducible] def und41 := @Und.mk Tryz.prog 41 _ Tryz.underlying41
attribute [instance] und41
instance inf41 : Inf Tryz.prog 41 (.nilFunc) 1 8 := ⟨by kernel_rfl⟩
@[reducible] def und42 := @Und.mk Tryz.prog 42 _ Tryz.underlying42
attribute [instance] und42
instance inf42 : Inf Tryz.prog 42 (.nilFunc) 1 8 := ⟨by kernel_rfl⟩
@[reducible] def und43 := @Und.mk Tryz.prog 43 _ Tryz.underlying43
attribute [instance] und43
instance inf43 : Inf Tryz.prog 43 (.nilFunc) 1 8 := ⟨by kernel_rfl⟩
@[reducible] def und44 := @Und.mk Tryz.prog 44 _ Tryz.underlying44
attribute [instance] und44
instance inf44 : Inf Tryz.prog 44 (.nilFunc) 1 8 := ⟨by kernel_rfl⟩
@[reducible] def und45 := @Und.mk Tryz.prog 45 _ Tryz.underlying45
attribute [instance] und45
instance inf45 : Inf Tryz.prog 45 (.nilFunc) 1 8 := ⟨by kernel_rfl⟩
@[reducible] def und46 := @Und.mk Tryz.prog 46 _ Tryz.underlying46
attribute [instance] und46
instance inf46 : Inf Tryz.prog 46 (.nilFunc) 1 8 := ⟨by kernel_rfl⟩
@[reducible] def und47 := @Und.mk Tryz.prog 47 _ Tryz.underlying47
attribute [instance] und47
instance inf47 : Inf Tryz.prog 47 (.nilFunc) 1 8 := ⟨by kernel_rfl⟩
@[reducible] def und48 := @Und.mk Tryz.prog 48 _ Tryz.underlying48
attribute [instance] und48
instance inf48 : Inf Tryz.prog 48 (.nilFunc) 1 8 := ⟨by kernel_rfl⟩
@[reducible] def und49 := @Und.mk Tryz.prog 49 _ Tryz.underlying49
attribute [instance] und49
instance inf49 : Inf Tryz.prog 49 (.nilFunc) 1 8 := ⟨by kernel_rfl⟩
@[reducible] def und50 := @Und.mk Tryz.prog 50 _ Tryz.underlying50
attribute [instance] und50
instance inf50 : Inf Tryz.prog 50 (.nilFunc) 1 8 := ⟨by kernel_rfl⟩
@[reducible] def und51 := @Und.mk Tryz.prog 51 _ Tryz.underlying51
attribute [instance] und51
instance inf51 : Inf Tryz.prog 51 (.nilFunc) 1 8 := ⟨by kernel_rfl⟩
@[reducible] def und52 := @Und.mk Tryz.prog 52 _ Tryz.underlying52
attribute [instance] und52
instance inf52 : Inf Tryz.prog 52 (.map none) 1 8 := ⟨by kernel_rfl⟩
@[reducible] def und53 := @Und.mk Tryz.prog 53 _ Tryz.underlying53
attribute [instance] und53
instance inf53 : Inf Tryz.prog 53 (.nilFunc) 1 8 := ⟨by kernel_rfl⟩
@[reducible] def und54 := @Und.mk Tryz.prog 54 _ Tryz.underlying54
attribute [instance] und54
instance inf54 : Inf Tryz.prog 54 (.nilFunc) 1 8 := ⟨by kernel_rfl⟩
@[reducible] def und56 := @Und.mk Tryz.prog 56 _ Tryz.underlying56
attribute [instance] und56
instance inf56 : Inf Tryz.prog 56 (.nilFunc) 1 8 := ⟨by kernel_rfl⟩
@[reducible] def und57 := @Und.mk Tryz.prog 57 _ Tryz.underlying57
attribute [instance] und57
instance inf57 : Inf Tryz.prog 57 (.nilFunc) 1 8 := ⟨by kernel_rfl⟩
@[reducible] def und58 := @Und.mk Tryz.prog 58 _ Tryz.underlying58
attribute [instance] und58
instance inf58 : Inf Tryz.prog 58 (.nilFunc) 1 8 := ⟨by kernel_rfl⟩
@[reducible] def und59 := @Und.mk Tryz.prog 59 _ Tryz.underlying59
attribute [instance] und59
instance inf59 : Inf Tryz.prog 59 (.nilFunc) 1 8 := ⟨by kernel_rfl⟩
@[reducible] def und60 := @Und.mk Tryz.prog 60 _ Tryz.underlying60
attribute [instance] und60
instance inf60 : Inf Tryz.prog 60 (.nilFunc) 1 8 := ⟨by kernel_rfl⟩
@[reducible] def und61 := @Und.mk Tryz.prog 61 _ Tryz.underlying61
attribute [instance] und61
instance inf61 : Inf Tryz.prog 61 (.nilFunc) 1 8 := ⟨by kernel_rfl⟩
@[reducible] def und62 := @Und.mk Tryz.prog 62 _ Tryz.underlying62
attribute [instance] und62
instance inf62 : Inf Tryz.prog 62 (.nilFunc) 1 8 := ⟨by kernel_rfl⟩
@[reducible] def und63 := @Und.mk Tryz.prog 63 _ Tryz.underlying63
attribute [instance] und63
instance inf63 : Inf Tryz.prog 63 (.nilFunc) 1 8 := ⟨by kernel_rfl⟩
@[reducible] def und64 := @Und.mk Tryz.prog 64 _ Tryz.underlying64
attribute [instance] und64
instance inf64 : Inf Tryz.prog 64 (.nilFunc) 1 8 := ⟨by kernel_rfl⟩
@[reducible] def und65 := @Und.mk Tryz.prog 65 _ Tryz.underlying65
attribute [instance] und65
instance inf65 : Inf Tryz.prog 65 (.nilFunc) 1 8 := ⟨by kernel_rfl⟩
@[reducible] def und66 := @Und.mk Tryz.prog 66 _ Tryz.underlying66
attribute [instance] und66
instance inf66 : Inf Tryz.prog 66 (.slice none 0 0) 1 24 := ⟨by kernel_rfl⟩
@[reducible] def und67 := @Und.mk Tryz.prog 67 _ Tryz.underlying67
attribute [instance] und67
instance inf67 : Inf Tryz.prog 67 (.nilFunc) 1 8 := ⟨by kernel_rfl⟩
@[reducible] def und68 := @Und.mk Tryz.prog 68 _ Tryz.underlying68
attribute [instance] und68
instance inf68 : Inf Tryz.prog 68 (.nilFunc) 1 8 := ⟨by kernel_rfl⟩
@[reducible] def und69 := @Und.mk Tryz.prog 69 _ Tryz.underlying69
attribute [instance] und69
instance inf69 : Inf Tryz.prog 69 (.nilFunc) 1 8 := ⟨by kernel_rfl⟩
@[reducible] def und70 := @Und.mk Tryz.prog 70 _ Tryz.underlying70
attribute [instance] und70
instance inf70 : Inf Tryz.prog 70 (.pointer none) 1 8 := ⟨by kernel_rfl⟩
@[reducible] def und71 := @Und.mk Tryz.prog 71 _ Tryz.underlying71
attribute [instance] und71
instance inf71 : Inf Tryz.prog 71 (.nilFunc) 1 8 := ⟨by kernel_rfl⟩
@[reducible] def und72 := @Und.mk Tryz.prog 72 _ Tryz.underlying72
attribute [instance] und72
instance inf72 : Inf Tryz.prog 72 (.nilFunc) 1 8 := ⟨by kernel_rfl⟩
@[reducible] def und73 := @Und.mk Tryz.prog 73 _ Tryz.underlying73
attribute [instance] und73
instance inf73 : Inf Tryz.prog 73 (.nilFunc) 1 8 := ⟨by kernel_rfl⟩
@[reducible] def und74 := @Und.mk Tryz.prog 74 _ Tryz.underlying74
attribute [instance] und74
instance inf74 : Inf Tryz.prog 74 (.nilFunc) 1 8 := ⟨by kernel_rfl⟩
@[reducible] def und75 := @Und.mk Tryz.prog 75 _ Tryz.underlying75
attribute [instance] und75
instance inf75 : Inf Tryz.prog 75 (.nilFunc) 1 8 := ⟨by kernel_rfl⟩
@[reducible] def und76 := @Und.mk Tryz.prog 76 _ Tryz.underlying76
attribute [instance] und76
instance inf76 : Inf Tryz.prog 76 (.int .u64 (0)) 1 8 := ⟨by kernel_rfl⟩
@[reducible] def und77 := @Und.mk Tryz.prog 77 _ Tryz.underlying77
attribute [instance] und77
instance inf77 : Inf Tryz.prog 77 (.slice none 0 0) 1 24 := ⟨by kernel_rfl⟩
@[reducible] def und78 := @Und.mk Tryz.prog 78 _ Tryz.underlying78
attribute [instance] und78
instance inf78 : Inf Tryz.prog 78 (.nilFunc) 1 8 := ⟨by kernel_rfl⟩
@[reducible] def und79 := @Und.mk Tryz.prog 79 _ Tryz.underlying79
attribute [instance] und79
instance inf79 : Inf Tryz.prog 79 (.nilFunc) 1 8 := ⟨by kernel_rfl⟩
@[reducible] def und81 := @Und.mk Tryz.prog 81 _ Tryz.underlying81
attribute [instance] und81
instance inf81 : Inf Tryz.prog 81 (.nilFunc) 1 8 := ⟨by kernel_rfl⟩
@[reducible] def und82 := @Und.mk Tryz.prog 82 _ Tryz.underlying82
attribute [instance] und82
instance inf82 : Inf Tryz.prog 82 (.nilFunc) 1 8 := ⟨by kernel_rfl⟩
@[reducible] def und83 := @Und.mk Tryz.prog 83 _ Tryz.underlying83
attribute [instance] und83
instance inf83 : Inf Tryz.prog 83 (.nilFunc) 1 8 := ⟨by kernel_rfl⟩
@[reducible] def und84 := @Und.mk Tryz.prog 84 _ Tryz.underlying84
attribute [instance] und84
instance inf84 : Inf Tryz.prog 84 (.int .i64 (0)) 1 8 := ⟨by kernel_rfl⟩
@[reducible] def und86 := @Und.mk Tryz.prog 86 _ Tryz.underlying86
attribute [instance] und86
instance inf86 : Inf Tryz.prog 86 (.nilFunc) 1 8 := ⟨by kernel_rfl⟩
@[reducible] def und87 := @Und.mk Tryz.prog 87 _ Tryz.underlying87
attribute [instance] und87
instance inf87 : Inf Tryz.prog 87 (.nilFunc) 1 8 := ⟨by kernel_rfl⟩
@[reducible] def und88 := @Und.mk Tryz.prog 88 _ Tryz.underlying88
attribute [instance] und88
instance inf88 : Inf Tryz.prog 88 (.nilFunc) 1 8 := ⟨by kernel_rfl⟩
@[reducible] def und89 := @Und.mk Tryz.prog 89 _ Tryz.underlying89
attribute [instance] und89
instance inf89 : Inf Tryz.prog 89 (.nilFunc) 1 8 := ⟨by kernel_rfl⟩
@[reducible] def und91 := @Und.mk Tryz.prog 91 _ Tryz.underlying91
attribute [instance] und91
instance inf91 : Inf Tryz.prog 91 (.nilFunc) 1 8 := ⟨by kernel_rfl⟩
@[reducible] def und92 := @Und.mk Tryz.prog 92 _ Tryz.underlying92
attribute [instance] und92
instance inf92 : Inf Tryz.prog 92 (.nilFunc) 1 8 := ⟨by kernel_rfl⟩
@[reducible] def und93 := @Und.mk Tryz.prog 93 _ Tryz.underlying93
attribute [instance] und93
instance inf93 : Inf Tryz.prog 93 (.int .u32 (0)) 1 4 := ⟨by kernel_rfl⟩
@[reducible] def und94 := @Und.mk Tryz.prog 94 _ Tryz.underlying94
attribute [instance] und94
instance inf94 : Inf Tryz.prog 94 (.nilFunc) 1 8 := ⟨by kernel_rfl⟩
@[reducible] def und95 := @Und.mk Tryz.prog 95 _ Tryz.underlying95
attribute [instance] und95
instance inf95 : Inf Tryz.prog 95 (.int .u64 (0)) 1 8 := ⟨by kernel_rfl⟩
@[reducible] def und96 := @Und.mk Tryz.prog 96 _ Tryz.underlying96
attribute [instance] und96
instance inf96 : Inf Tryz.prog 96 (.nilFunc) 1 8 := ⟨by kernel_rfl⟩
@[reducible] def und98 := @Und.mk Tryz.prog 98 _ Tryz.underlying98
attribute [instance] und98
instance inf98 : Inf Tryz.prog 98 (.nilFunc) 1 8 := ⟨by kernel_rfl⟩
@[reducible] def und100 := @Und.mk Tryz.prog 100 _ Tryz.underlying100
attribute [instance] und100
instance inf100 : Inf Tryz.prog 100 (.nilFunc) 1 8 := ⟨by kernel_rfl⟩
@[reducible] def und101 := @Und.mk Tryz.prog 101 _ Tryz.underlying101
attribute [instance] und101
instance inf101 : Inf Tryz.prog 101 (.int .u64 (0)) 1 8 := ⟨by kernel_rfl⟩
@[reducible] def und102 := @Und.mk Tryz.prog 102 _ Tryz.underlying102
attribute [instance] und102
instance inf102 : Inf Tryz.prog 102 (.nilFunc) 1 8 := ⟨by kernel_rfl⟩
@[reducible] def und103 := @Und.mk Tryz.prog 103 _ Tryz.underlying103
attribute [instance] und103
instance inf103 : Inf Tryz.prog 103 (.nilFunc) 1 8 := ⟨by kernel_rfl⟩
@[reducible] def und104 := @Und.mk Tryz.prog 104 _ Tryz.underlying104
attribute [instance] und104
instance inf104 : Inf Tryz.prog 104 (.nilFunc) 1 8 := ⟨by kernel_rfl⟩
@[reducible] def und105 := @Und.mk Tryz.prog 105 _ Tryz.underlying105
attribute [instance] und105
instance inf105 : Inf Tryz.prog 105 (.pointer none) 1 8 := ⟨by kernel_rfl⟩
@[reducible] def und106 := @Und.mk Tryz.prog 106 _ Tryz.underlying106
attribute [instance] und106
instance inf106 : Inf Tryz.prog 106 (.nilFunc) 1 8 := ⟨by kernel_rfl⟩
@[reducible] def und107 := @Und.mk Tryz.prog 107 _ Tryz.underlying107
attribute [instance] und107
instance inf107 : Inf Tryz.prog 107 (.nilFunc) 1 8 := ⟨by kernel_rfl⟩
@[reducible] def und108 := @Und.mk Tryz.prog 108 _ Tryz.underlying108
attribute [instance] und108
instance inf108 : Inf Tryz.prog 108 (.agg #[.int .u8 (0), .int .u8 (0), .int .u8 (0), .int .u8 (0), .int .u8 (0), .int .u8 (0), .int .u8 (0), .int .u8 (0), .int .u8 (0), .int .u8 (0), .int .u8 (0), .int .u8 (0), .int .u8 (0), .int .u8 (0), .int .u8 (0), .int .u8 (0), .int .u8 (0), .int .u8 (0), .int .u8 (0), .int .u8 (0), .int .u8 (0), .int .u8 (0), .int .u8 (0), .int .u8 (0)]) 24 24 := ⟨by kernel_rfl⟩
@[reducible] def und109 := @Und.mk Tryz.prog 109 _ Tryz.underlying109
attribute [instance] und109
instance inf109 : Inf Tryz.prog 109 (.nilFunc) 1 8 := ⟨by kernel_rfl⟩
@[reducible] def und111 := @Und.mk Tryz.prog 111 _ Tryz.underlying111
attribute [instance] und111
instance inf111 : Inf Tryz.prog 111 (.nilFunc) 1 8 := ⟨by kernel_rfl⟩
@[reducible] def und112 := @Und.mk Tryz.prog 112 _ Tryz.underlying112
attribute [instance] und112
instance inf112 : Inf Tryz.prog 112 (.pointer none) 1 8 := ⟨by kernel_rfl⟩
@[reducible] def und114 := @Und.mk Tryz.prog 114 _ Tryz.underlying114
attribute [instance] und114
instance inf114 : Inf Tryz.prog 114 (.nilFunc) 1 8 := ⟨by kernel_rfl⟩
@[reducible] def und115 := @Und.mk Tryz.prog 115 _ Tryz.underlying115
attribute [instance] und115
instance inf115 : Inf Tryz.prog 115 (.nilFunc) 1 8 := ⟨by kernel_rfl⟩
@[reducible] def und116 := @Und.mk Tryz.prog 116 _ Tryz.underlying116
attribute [instance] und116
instance inf116 : Inf Tryz.prog 116 (.nilFunc) 1 8 := ⟨by kernel_rfl⟩
@[reducible] def und117 := @Und.mk Tryz.prog 117 _ Tryz.underlying117
attribute [instance] und117
instance inf117 : Inf Tryz.prog 117 (.agg #[.int .u64 (0), .int .u64 (0), .int .u64 (0), .int .u64 (0), .int .u64 (0), .int .u64 (0), .int .u64 (0), .int .u64 (0), .int .u64 (0), .int .u64 (0), .int .u64 (0), .int .u64 (0), .int .u64 (0), .int .u64 (0), .int .u64 (0), .int .u64 (0), .int .u64 (0), .int .u64 (0), .int .u64 (0), .int .u64 (0)]) 20 160 := ⟨by kernel_rfl⟩
@[reducible] def und118 := @Und.mk Tryz.prog 118 _ Tryz.underlying118
attribute [instance] und118
instance inf118 : Inf Tryz.prog 118 (.agg #[.int .u8 (0), .int .u8 (0), .int .u8 (0), .int .u8 (0), .int .u8 (0), .int .u8 (0), .int .u8 (0), .int .u8 (0), .int .u8 (0), .int .u8 (0), .int .u8 (0), .int .u8 (0), .int .u8 (0), .int .u8 (0), .int .u8 (0), .int .u8 (0), .int .u8 (0), .int .u8 (0), .int .u8 (0), .int .u8 (0), .int .u8 (0), .int .u8 (0), .int .u8 (0), .int .u8 (0), .int .u8 (0), .int .u8 (0), .int .u8 (0), .int .u8 (0), .int .u8 (0), .int .u8 (0), .int .u8 (0), .int .u8 (0), .int .u8 (0), .int .u8 (0), .int .u8 (0), .int .u8 (0), .int .u8 (0), .int .u8 (0), .int .u8 (0), .int .u8 (0), .int .u8 (0), .int .u8 (0), .int .u8 (0), .int .u8 (0), .int .u8 (0), .int .u8 (0), .int .u8 (0), .int .u8 (0), .int .u8 (0), .int .u8 (0), .int .u8 (0), .int .u8 (0), .int .u8 (0), .int .u8 (0), .int .u8 (0), .int .u8 (0), .int .u8 (0), .int .u8 (0), .int .u8 (0), .int .u8 (0), .int .u8 (0), .int .u8 (0), .int .u8 (0), .int .u8 (0), .int .u8 (0)]) 65 65 := ⟨by kernel_rfl⟩
@[reducible] def und119 := @Und.mk Tryz.prog 119 _ Tryz.underlying119
attribute [instance] und119
instance inf119 : Inf Tryz.prog 119 (.nilFunc) 1 8 := ⟨by kernel_rfl⟩
@[reducible] def und120 := @Und.mk Tryz.prog 120 _ Tryz.underlying120
attribute [instance] und120
instance inf120 : Inf Tryz.prog 120 (.agg #[.int .u8 (0), .int .u8 (0), .int .u8 (0), .int .u8 (0), .int .u8 (0), .int .u8 (0), .int .u8 (0), .int .u8 (0), .int .u8 (0), .int .u8 (0), .int .u8 (0), .int .u8 (0), .int .u8 (0), .int .u8 (0), .int .u8 (0), .int .u8 (0), .int .u8 (0), .int .u8 (0), .int .u8 (0), .int .u8 (0), .int .u8 (0), .int .u8 (0), .int .u8 (0), .int .u8 (0), .int .u8 (0), .int .u8 (0), .int .u8 (0), .int .u8 (0), .int .u8 (0), .int .u8 (0), .int .u8 (0), .int .u8 (0)]) 32 32 := ⟨by kernel_rfl⟩
@[reducible] def und121 := @Und.mk Tryz.prog 121 _ Tryz.underlying121
attribute [instance] und121
instance inf121 : Inf Tryz.prog 121 (.agg #[.int .u8 (0), .int .u8 (0), .int .u8 (0), .int .u8 (0), .int .u8 (0), .int .u8 (0), .int .u8 (0), .int .u8 (0), .int .u8 (0), .int .u8 (0), .int .u8 (0), .int .u8 (0), .int .u8 (0), .int .u8 (0), .int .u8 (0), .int .u8 (0), .int .u8 (0), .int .u8 (0), .int .u8 (0), .int .u8 (0), .int .u8 (0), .int .u8 (0), .int .u8 (0), .int .u8 (0), .int .u8 (0), .int .u8 (0), .int .u8 (0), .int .u8 (0), .int .u8 (0), .int .u8 (0), .int .u8 (0), .int .u8 (0), .int .u8 (0), .int .u8 (0), .int .u8 (0), .int .u8 (0), .int .u8 (0), .int .u8 (0), .int .u8 (0), .int .u8 (0), .int .u8 (0), .int .u8 (0), .int .u8 (0), .int .u8 (0), .int .u8 (0), .int .u8 (0), .int .u8 (0), .int .u8 (0), .int .u8 (0), .int .u8 (0), .int .u8 (0), .int .u8 (0), .int .u8 (0), .int .u8 (0), .int .u8 (0), .int .u8 (0), .int .u8 (0), .int .u8 (0), .int .u8 (0), .int .u8 (0), .int .u8 (0), .int .u8 (0), .int .u8 (0), .int .u8 (0)]) 64 64 := ⟨by kernel_rfl⟩
@[reducible] def und122 := @Und.mk Tryz.prog 122 _ Tryz.underlying122
attribute [instance] und122
instance inf122 : Inf Tryz.prog 122 (.nilFunc) 1 8 := ⟨by kernel_rfl⟩
@[reducible] def und123 := @Und.mk Tryz.prog 123 _ Tryz.underlying123
attribute [instance] und123
instance inf123 : Inf Tryz.prog 123 (.agg #[.pointer none, .pointer none, .pointer none, .string .empty]) 4 40 := ⟨by kernel_rfl⟩
@[reducible] def und124 := @Und.mk Tryz.prog 124 _ Tryz.underlying124
attribute [instance] und124
instance inf124 : Inf Tryz.prog 124 (.agg #[.pointer none, .pointer none, .pointer none, .string .empty]) 4 40 := ⟨by kernel_rfl⟩
@[reducible] def und125 := @Und.mk Tryz.prog 125 _ Tryz.underlying125
attribute [instance] und125
instance inf125 : Inf Tryz.prog 125 (.agg #[]) 0 0 := ⟨by kernel_rfl⟩
@[reducible] def und126 := @Und.mk Tryz.prog 126 _ Tryz.underlying126
attribute [instance] und126
instance inf126 : Inf Tryz.prog 126 (.agg #[]) 0 0 := ⟨by kernel_rfl⟩
@[reducible] def und127 := @Und.mk Tryz.prog 127 _ Tryz.underlying127
attribute [instance] und127
instance inf127 : Inf Tryz.prog 127 (.agg #[]) 0 0 := ⟨by kernel_rfl⟩
@[reducible] def und128 := @Und.mk Tryz.prog 128 _ Tryz.underlying128
attribute [instance] und128
instance inf128 : Inf Tryz.prog 128 (.nilFunc) 1 8 := ⟨by kernel_rfl⟩
@[reducible] def und129 := @Und.mk Tryz.prog 129 _ Tryz.underlying129
attribute [instance] und129
instance inf129 : Inf Tryz.prog 129 (.int .u8 (0)) 1 1 := ⟨by kernel_rfl⟩
@[reducible] def und130 := @Und.mk Tryz.prog 130 _ Tryz.underlying130
attribute [instance] und130
instance inf130 : Inf Tryz.prog 130 (.int .u8 (0)) 1 1 := ⟨by kernel_rfl⟩
@[reducible] def und131 := @Und.mk Tryz.prog 131 _ Tryz.underlying131
attribute [instance] und131
instance inf131 : Inf Tryz.prog 131 (.nilFunc) 1 8 := ⟨by kernel_rfl⟩
@[reducible] def und132 := @Und.mk Tryz.prog 132 _ Tryz.underlying132
attribute [instance] und132
instance inf132 : Inf Tryz.prog 132 (.pointer none) 1 8 := ⟨by kernel_rfl⟩
@[reducible] def und133 := @Und.mk Tryz.prog 133 _ Tryz.underlying133
attribute [instance] und133
instance inf133 : Inf Tryz.prog 133 (.int .i32 (0)) 1 4 := ⟨by kernel_rfl⟩
@[reducible] def und134 := @Und.mk Tryz.prog 134 _ Tryz.underlying134
attribute [instance] und134
instance inf134 : Inf Tryz.prog 134 (.int .i32 (0)) 1 4 := ⟨by kernel_rfl⟩
@[reducible] def und135 := @Und.mk Tryz.prog 135 _ Tryz.underlying135
attribute [instance] und135
instance inf135 : Inf Tryz.prog 135 (.agg #[.int .u64 (0), .int .u64 (0), .int .u32 (0), .int .u8 (0), .int .u8 (0), .int .u8 (0), .int .u8 (0), .nilFunc, .pointer none, .int .i32 (0), .int .i32 (0)]) 11 48 := ⟨by kernel_rfl⟩
@[reducible] def und136 := @Und.mk Tryz.prog 136 _ Tryz.underlying136
attribute [instance] und136
instance inf136 : Inf Tryz.prog 136 (.agg #[.int .u64 (0), .int .u64 (0), .int .u32 (0), .int .u8 (0), .int .u8 (0), .int .u8 (0), .int .u8 (0), .nilFunc, .pointer none, .int .i32 (0), .int .i32 (0)]) 11 48 := ⟨by kernel_rfl⟩
@[reducible] def und137 := @Und.mk Tryz.prog 137 _ Tryz.underlying137
attribute [instance] und137
instance inf137 : Inf Tryz.prog 137 (.pointer none) 1 8 := ⟨by kernel_rfl⟩
instance fnc2 : Fnc Tryz.prog 2 := ⟨_, Tryz.func2, by kernel_rfl, rfl⟩
instance fnc3 : Fnc Tryz.prog 3 := ⟨_, Tryz.func3, by kernel_rfl, rfl⟩
instance fnc4 : Fnc Tryz.prog 4 := ⟨_, Tryz.func4, by kernel_rfl, rfl⟩
instance fnc5 : Fnc Tryz.prog 5 := ⟨_, Tryz.func5, by kernel_rfl, rfl⟩
instance fnc6 : Fnc Tryz.prog 6 := ⟨_, Tryz.func6, by kernel_rfl, rfl⟩
instance fnc7 : Fnc Tryz.prog 7 := ⟨_, Tryz.func7, by kernel_rfl, rfl⟩
instance fnc8 : Fnc Tryz.prog 8 := ⟨_, Tryz.func8, by kernel_rfl, rfl⟩
instance fnc9 : Fnc Tryz.prog 9 := ⟨_, Tryz.func9, by kernel_rfl, rfl⟩
instance fnc10 : Fnc Tryz.prog 10 := ⟨_, Tryz.func10, by kernel_rfl, rfl⟩
instance fnc11 : Fnc Tryz.prog 11 := ⟨_, Tryz.func11, by kernel_rfl, rfl⟩
instance fnc12 : Fnc Tryz.prog 12 := ⟨_, Tryz.func12, by kernel_rfl, rfl⟩
instance fnc13 : Fnc Tryz.prog 13 := ⟨_, Tryz.func13, by kernel_rfl, rfl⟩
instance fnc14 : Fnc Tryz.prog 14 := ⟨_, Tryz.func14, by kernel_rfl, rfl⟩
instance fnc15 : Fnc Tryz.prog 15 := ⟨_, Tryz.func15, by kernel_rfl, rfl⟩
instance fnc16 : Fnc Tryz.prog 16 := ⟨_, Tryz.func16, by kernel_rfl, rfl⟩
instance fnc17 : Fnc Tryz.prog 17 := ⟨_, Tryz.func17, by kernel_rfl, rfl⟩
instance fnc18 : Fnc Tryz.prog 18 := ⟨_, Tryz.func18, by kernel_rfl, rfl⟩
instance fnc19 : Fnc Tryz.prog 19 := ⟨_, Tryz.func19, by kernel_rfl, rfl⟩
instance fnc20 : Fnc Tryz.prog 20 := ⟨_, Tryz.func20, by kernel_rfl, rfl⟩
instance fnc21 : Fnc Tryz.prog 21 := ⟨_, Tryz.func21, by kernel_rfl, rfl⟩
instance fnc22 : Fnc Tryz.prog 22 := ⟨_, Tryz.func22, by kernel_rfl, rfl⟩
instance fnc23 : Fnc Tryz.prog 23 := ⟨_, Tryz.func23, by kernel_rfl, rfl⟩
instance fnc24 : Fnc Tryz.prog 24 := ⟨_, Tryz.func24, by kernel_rfl, rfl⟩
instance fnc25 : Fnc Tryz.prog 25 := ⟨_, Tryz.func25, by kernel_rfl, rfl⟩
instance fnc26 : Fnc Tryz.prog 26 := ⟨_, Tryz.func26, by kernel_rfl, rfl⟩
instance fnc27 : Fnc Tryz.prog 27 := ⟨_, Tryz.func27, by kernel_rfl, rfl⟩
instance fnc28 : Fnc Tryz.prog 28 := ⟨_, Tryz.func28, by kernel_rfl, rfl⟩
instance fnc29 : Fnc Tryz.prog 29 := ⟨_, Tryz.func29, by kernel_rfl, rfl⟩
instance fnc30 : Fnc Tryz.prog 30 := ⟨_, Tryz.func30, by kernel_rfl, rfl⟩
instance fnc31 : Fnc Tryz.prog 31 := ⟨_, Tryz.func31, by kernel_rfl, rfl⟩
instance fnc32 : Fnc Tryz.prog 32 := ⟨_, Tryz.func32, by kernel_rfl, rfl⟩
instance fnc33 : Fnc Tryz.prog 33 := ⟨_, Tryz.func33, by kernel_rfl, rfl⟩
instance fnc34 : Fnc Tryz.prog 34 := ⟨_, Tryz.func34, by kernel_rfl, rfl⟩
instance fnc35 : Fnc Tryz.prog 35 := ⟨_, Tryz.func35, by kernel_rfl, rfl⟩
instance fnc36 : Fnc Tryz.prog 36 := ⟨_, Tryz.func36, by kernel_rfl, rfl⟩
instance fnc37 : Fnc Tryz.prog 37 := ⟨_, Tryz.func37, by kernel_rfl, rfl⟩
instance fnc38 : Fnc Tryz.prog 38 := ⟨_, Tryz.func38, by kernel_rfl, rfl⟩
instance fnc39 : Fnc Tryz.prog 39 := ⟨_, Tryz.func39, by kernel_rfl, rfl⟩
instance fnc40 : Fnc Tryz.prog 40 := ⟨_, Tryz.func40, by kernel_rfl, rfl⟩
instance fnc41 : Fnc Tryz.prog 41 := ⟨_, Tryz.func41, by kernel_rfl, rfl⟩
instance fnc42 : Fnc Tryz.prog 42 := ⟨_, Tryz.func42, by kernel_rfl, rfl⟩
instance fnc43 : Fnc Tryz.prog 43 := ⟨_, Tryz.func43, by kernel_rfl, rfl⟩
instance fnc44 : Fnc Tryz.prog 44 := ⟨_, Tryz.func44, by kernel_rfl, rfl⟩
instance fnc45 : Fnc Tryz.prog 45 := ⟨_, Tryz.func45, by kernel_rfl, rfl⟩
instance fnc46 : Fnc Tryz.prog 46 := ⟨_, Tryz.func46, by kernel_rfl, rfl⟩
instance fnc47 : Fnc Tryz.prog 47 := ⟨_, Tryz.func47, by kernel_rfl, rfl⟩
instance fnc48 : Fnc Tryz.prog 48 := ⟨_, Tryz.func48, by kernel_rfl, rfl⟩
instance fnc49 : Fnc Tryz.prog 49 := ⟨_, Tryz.func49, by kernel_rfl, rfl⟩
instance fnc50 : Fnc Tryz.prog 50 := ⟨_, Tryz.func50, by kernel_rfl, rfl⟩
instance fnc51 : Fnc Tryz.prog 51 := ⟨_, Tryz.func51, by kernel_rfl, rfl⟩
instance fnc52 : Fnc Tryz.prog 52 := ⟨_, Tryz.func52, by kernel_rfl, rfl⟩
instance fnc53 : Fnc Tryz.prog 53 := ⟨_, Tryz.func53, by kernel_rfl, rfl⟩
instance fnc54 : Fnc Tryz.prog 54 := ⟨_, Tryz.func54, by kernel_rfl, rfl⟩
instance fnc55 : Fnc Tryz.prog 55 := ⟨_, Tryz.func55, by kernel_rfl, rfl⟩
instance fnc56 : Fnc Tryz.prog 56 := ⟨_, Tryz.func56, by kernel_rfl, rfl⟩
instance fnc57 : Fnc Tryz.prog 57 := ⟨_, Tryz.func57, by kernel_rfl, rfl⟩
instance fnc58 : Fnc Tryz.prog 58 := ⟨_, Tryz.func58, by kernel_rfl, rfl⟩
instance fnc59 : Fnc Tryz.prog 59 := ⟨_, Tryz.func59, by kernel_rfl, rfl⟩
instance fnc60 : Fnc Tryz.prog 60 := ⟨_, Tryz.func60, by kernel_rfl, rfl⟩
instance fnc61 : Fnc Tryz.prog 61 := ⟨_, Tryz.func61, by kernel_rfl, rfl⟩
instance fnc62 : Fnc Tryz.prog 62 := ⟨_, Tryz.func62, by kernel_rfl, rfl⟩
instance fnc63 : Fnc Tryz.prog 63 := ⟨_, Tryz.func63, by kernel_rfl, rfl⟩
instance fnc64 : Fnc Tryz.prog 64 := ⟨_, Tryz.func64, by kernel_rfl, rfl⟩
instance fnc65 : Fnc Tryz.prog 65 := ⟨_, Tryz.func65, by kernel_rfl, rfl⟩
instance fnc66 : Fnc Tryz.prog 66 := ⟨_, Tryz.func66, by kernel_rfl, rfl⟩
instance fnc67 : Fnc Tryz.prog 67 := ⟨_, Tryz.func67, by kernel_rfl, rfl⟩
instance fnc68 : Fnc Tryz.prog 68 := ⟨_, Tryz.func68, by kernel_rfl, rfl⟩
instance fnc69 : Fnc Tryz.prog 69 := ⟨_, Tryz.func69, by kernel_rfl, rfl⟩
instance fnc70 : Fnc Tryz.prog 70 := ⟨_, Tryz.func70, by kernel_rfl, rfl⟩
instance fnc71 : Fnc Tryz.prog 71 := ⟨_, Tryz.func71, by kernel_rfl, rfl⟩
instance fnc72 : Fnc Tryz.prog 72 := ⟨_, Tryz.func72, by kernel_rfl, rfl⟩
instance fnc73 : Fnc Tryz.prog 73 := ⟨_, Tryz.func73, by kernel_rfl, rfl⟩
instance fnc74 : Fnc Tryz.prog 74 := ⟨_, Tryz.func74, by kernel_rfl, rfl⟩
instance fnc75 : Fnc Tryz.prog 75 := ⟨_, Tryz.func75, by kernel_rfl, rfl⟩
instance fnc76 : Fnc Tryz.prog 76 := ⟨_, Tryz.func76, by kernel_rfl, rfl⟩
instance fnc77 : Fnc Tryz.prog 77 := ⟨_, Tryz.func77, by kernel_rfl, rfl⟩
instance fnc78 : Fnc Tryz.prog 78 := ⟨_, Tryz.func78, by kernel_rfl, rfl⟩
instance fnc79 : Fnc Tryz.prog 79 := ⟨_, Tryz.func79, by kernel_rfl, rfl⟩
instance fnc80 : Fnc Tryz.prog 80 := ⟨_, Tryz.func80, by kernel_rfl, rfl⟩
instance fnc81 : Fnc Tryz.prog 81 := ⟨_, Tryz.func81, by kernel_rfl, rfl⟩
instance fnc82 : Fnc Tryz.prog 82 := ⟨_, Tryz.func82, by kernel_rfl, rfl⟩
instance fnc83 : Fnc Tryz.prog 83 := ⟨_, Tryz.func83, by kernel_rfl, rfl⟩
instance fnc84 : Fnc Tryz.prog 84 := ⟨_, Tryz.func84, by kernel_rfl, rfl⟩
instance fnc85 : Fnc Tryz.prog 85 := ⟨_, Tryz.func85, by kernel_rfl, rfl⟩
instance fnc86 : Fnc Tryz.prog 86 := ⟨_, Tryz.func86, by kernel_rfl, rfl⟩
instance fnc87 : Fnc Tryz.prog 87 := ⟨_, Tryz.func87, by kernel_rfl, rfl⟩
instance fnc88 : Fnc Tryz.prog 88 := ⟨_, Tryz.func88, by kernel_rfl, rfl⟩
instance fnc89 : Fnc Tryz.prog 89 := ⟨_, Tryz.func89, by kernel_rfl, rfl⟩
instance fnc90 : Fnc Tryz.prog 90 := ⟨_, Tryz.func90, by kernel_rfl, rfl⟩
instance fnc91 : Fnc Tryz.prog 91 := ⟨_, Tryz.func91, by kernel_rfl, rfl⟩
instance fnc92 : Fnc Tryz.prog 92 := ⟨_, Tryz.func92, by kernel_rfl, rfl⟩
instance fnc93 : Fnc Tryz.prog 93 := ⟨_, Tryz.func93, by kernel_rfl, rfl⟩
instance fnc94 : Fnc Tryz.prog 94 := ⟨_, Tryz.func94, by kernel_rfl, rfl⟩
instance fnc95 : Fnc Tryz.prog 95 := ⟨_, Tryz.func95, by kernel_rfl, rfl⟩
instance fnc96 : Fnc Tryz.prog 96 := ⟨_, Tryz.func96, by kernel_rfl, rfl⟩
instance fnc97 : Fnc Tryz.prog 97 := ⟨_, Tryz.func97, by kernel_rfl, rfl⟩
instance fnc98 : Fnc Tryz.prog 98 := ⟨_, Tryz.func98, by kernel_rfl, rfl⟩
instance fnc99 : Fnc Tryz.prog 99 := ⟨_, Tryz.func99, by kernel_rfl, rfl⟩
instance fnc100 : Fnc Tryz.prog 100 := ⟨_, Tryz.func100, by kernel_rfl, rfl⟩
instance fnc101 : Fnc Tryz.prog 101 := ⟨_, Tryz.func101, by kernel_rfl, rfl⟩
instance fnc102 : Fnc Tryz.prog 102 := ⟨_, Tryz.func102, by kernel_rfl, rfl⟩
instance fnc103 : Fnc Tryz.prog 103 := ⟨_, Tryz.func103, by kernel_rfl, rfl⟩
instance fnc104 : Fnc Tryz.prog 104 := ⟨_, Tryz.func104, by kernel_rfl, rfl⟩
instance fnc105 : Fnc Tryz.prog 105 := ⟨_, Tryz.func105, by kernel_rfl, rfl⟩
instance fnc127 : Fnc Tryz.prog 127 := ⟨_, Tryz.func127, by kernel_rfl, rfl⟩
end Go.Proofs.YtgobjpcankaicaaGreatDoor.Vc
