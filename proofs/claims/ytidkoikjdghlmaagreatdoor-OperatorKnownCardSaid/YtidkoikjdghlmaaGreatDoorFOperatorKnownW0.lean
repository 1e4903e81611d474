/- What the functions that this law reaches return: part 0. No condition. -/
import Derived.Test.YtidkoikjdghlmaaGreatDoorB05
set_option linter.all false
noncomputable section
namespace Go.Proofs.YtidkoikjdghlmaaGreatDoor
open Go Go.QL FoT
set_option maxRecDepth 1000000
def ea0:List AV:=[.a [I 1000,I 1,I 3,.d (.s 2 [[.v (.int .i64 (1000)),.v (.int .i64 (300))],[.v (.int .i64 (900)),.v (.int .i64 (500))],[.v (.int .i64 (800)),.v (.int .i64 (700))]])]]
def er0:AV:=.x (I 0)
theorem ek0:FnC Tryz.prog 28 ea0 er0:=evF0 (M:=[]) (by kernel_rfl) (by kernel_rfl)
def ef0:Fact Tryz.prog:=⟨28,ea0,er0,fun σ=>ek0.call (by kernel_rfl) (by kernel_rfl)⟩
def ea1:List AV:=[.a [I 10,I 2,I 1,I 30,I 5,.d (.s 1 [[.v (.string ⟨#[97,110,110]⟩)],[.v (.string ⟨#[98,111]⟩)]]),.d (.s 4 [[.v (.int .i64 (1000)),.v (.int .i64 (1)),.v (.int .i64 (3)),.s 2 [[.v (.int .i64 (1000)),.v (.int .i64 (300))],[.v (.int .i64 (900)),.v (.int .i64 (500))],[.v (.int .i64 (800)),.v (.int .i64 (700))]]]])]]
def er1:AV:=.t [.x (I 0),.x (I 0),.x (I 0)]
theorem ek1:FnC Tryz.prog 7 ea1 er1:=evF0 (M:=[ef0]) (by kernel_rfl) (by kernel_rfl)
def ef1:Fact Tryz.prog:=⟨7,ea1,er1,fun σ=>ek1.call (by kernel_rfl) (by kernel_rfl)⟩
def ea2:List AV:=[.x (.d (.v (.string ⟨#[106,111,98,32,102,32,97,110,110,32,56,32,97,42,40,98,45,48,46,50,53,41,43,98,32,52,49,57,52,51,48,52,32,52,49,57,52,51,48,52]⟩))),.x (.d (.v (.string ⟨#[32]⟩)))]
def er2:AV:=.x (.d (.s 1 [[.v (.string ⟨#[106,111,98]⟩)],[.v (.string ⟨#[102]⟩)],[.v (.string ⟨#[97,110,110]⟩)],[.v (.string ⟨#[56]⟩)],[.v (.string ⟨#[97,42,40,98,45,48,46,50,53,41,43,98]⟩)],[.v (.string ⟨#[52,49,57,52,51,48,52]⟩)],[.v (.string ⟨#[52,49,57,52,51,48,52]⟩)]]))
theorem ek2:FnC Tryz.prog 58 ea2 er2:=split_fact (by kernel_rfl)
def ef2:Fact Tryz.prog:=⟨58,ea2,er2,fun σ=>ek2.call (by kernel_rfl) (by kernel_rfl)⟩
def ea3:List AV:=[.x (.d (.v (.string ⟨#[56]⟩)))]
def er3:AV:=.t [.x (I 8),.x (.d (.v (.nilIface)))]
def ef3:Fact Tryz.prog:=⟨138,ea3,er3,atoi_fact (by kernel_rfl)⟩
def ea4:List AV:=[.x (I 8)]
def er4:AV:=.x (.d (.v (.string ⟨#[56]⟩)))
theorem ek4:FnC Tryz.prog 78 ea4 er4:=itoa_fact (by kernel_rfl)
def ef4:Fact Tryz.prog:=⟨78,ea4,er4,fun σ=>ek4.call (by kernel_rfl) (by kernel_rfl)⟩
def ea5:List AV:=[.x (.d (.v (.string ⟨#[52,49,57,52,51,48,52]⟩)))]
def er5:AV:=.t [.x (I 4194304),.x (.d (.v (.nilIface)))]
def ef5:Fact Tryz.prog:=⟨138,ea5,er5,atoi_fact (by kernel_rfl)⟩
def ea6:List AV:=[.x (I 4194304)]
def er6:AV:=.x (.d (.v (.string ⟨#[52,49,57,52,51,48,52]⟩)))
theorem ek6:FnC Tryz.prog 78 ea6 er6:=itoa_fact (by kernel_rfl)
def ef6:Fact Tryz.prog:=⟨78,ea6,er6,fun σ=>ek6.call (by kernel_rfl) (by kernel_rfl)⟩
def ea7:List AV:=[.x (.d (.v (.string ⟨#[97]⟩))),.x (.d (.v (.string ⟨#[48,46]⟩)))]
def er7:AV:=.t [.x (.d (.v (.string ⟨#[97]⟩))),.x (.d (.v (.bool false)))]
theorem ek7:FnC Tryz.prog 295 ea7 er7:=cutp_fact (by kernel_rfl)
def ef7:Fact Tryz.prog:=⟨295,ea7,er7,fun σ=>ek7.call (by kernel_rfl) (by kernel_rfl)⟩
def ea8:List AV:=[.x (.d (.v (.string ⟨#[97]⟩)))]
def er8:AV:=.t [.x (I 0),.x (.d (.e))]
def ef8:Fact Tryz.prog:=⟨138,ea8,er8,atoi_fact (by kernel_rfl)⟩
def ea9:List AV:=[.x (.d (.v (.string ⟨#[98]⟩))),.x (.d (.v (.string ⟨#[48,46]⟩)))]
def er9:AV:=.t [.x (.d (.v (.string ⟨#[98]⟩))),.x (.d (.v (.bool false)))]
theorem ek9:FnC Tryz.prog 295 ea9 er9:=cutp_fact (by kernel_rfl)
def ef9:Fact Tryz.prog:=⟨295,ea9,er9,fun σ=>ek9.call (by kernel_rfl) (by kernel_rfl)⟩
def ea10:List AV:=[.x (.d (.v (.string ⟨#[98]⟩)))]
def er10:AV:=.t [.x (I 0),.x (.d (.e))]
def ef10:Fact Tryz.prog:=⟨138,ea10,er10,atoi_fact (by kernel_rfl)⟩
def ea11:List AV:=[.x (.d (.v (.string ⟨#[48,46,50,53]⟩))),.x (.d (.v (.string ⟨#[48,46]⟩)))]
def er11:AV:=.t [.x (.d (.v (.string ⟨#[50,53]⟩))),.x (.d (.v (.bool true)))]
theorem ek11:FnC Tryz.prog 295 ea11 er11:=cutp_fact (by kernel_rfl)
def ef11:Fact Tryz.prog:=⟨295,ea11,er11,fun σ=>ek11.call (by kernel_rfl) (by kernel_rfl)⟩
def ea12:List AV:=[.x (.d (.v (.string ⟨#[50,53]⟩)))]
def er12:AV:=.t [.x (I 25),.x (.d (.v (.nilIface)))]
def ef12:Fact Tryz.prog:=⟨138,ea12,er12,atoi_fact (by kernel_rfl)⟩
def ea13:List AV:=[.x (.d (.v (.string ⟨#[97,42,40,98,45,48,46,50,53,41,43,98]⟩)))]
def er13:AV:=.t [.a [.d (.s 1 [[.v (.string ⟨#[97]⟩)],[.v (.string ⟨#[98]⟩)]]),.d (.s 4 [[.v (.int .i64 (1)),.v (.int .i64 (0)),.v (.int .i64 (0)),.v (.int .i64 (0))],[.v (.int .i64 (1)),.v (.int .i64 (1)),.v (.int .i64 (0)),.v (.int .i64 (0))],[.v (.int .i64 (2)),.v (.int .i64 (0)),.v (.int .i64 (25)),.v (.int .i64 (2))],[.v (.int .i64 (4)),.v (.int .i64 (0)),.v (.int .i64 (0)),.v (.int .i64 (0))],[.v (.int .i64 (5)),.v (.int .i64 (0)),.v (.int .i64 (0)),.v (.int .i64 (0))],[.v (.int .i64 (1)),.v (.int .i64 (1)),.v (.int .i64 (0)),.v (.int .i64 (0))],[.v (.int .i64 (3)),.v (.int .i64 (0)),.v (.int .i64 (0)),.v (.int .i64 (0))]])],.x (I 0),.x (I 0)]
theorem ek13:FnC Tryz.prog 83 ea13 er13:=evF0 (M:=[ef7,ef8,ef9,ef10,ef11,ef12]) (by kernel_rfl) (by kernel_rfl)
def ef13:Fact Tryz.prog:=⟨83,ea13,er13,fun σ=>ek13.call (by kernel_rfl) (by kernel_rfl)⟩
def ea14:List AV:=[.a [.d (.s 1 [[.v (.string ⟨#[97]⟩)],[.v (.string ⟨#[98]⟩)]]),.d (.s 4 [[.v (.int .i64 (1)),.v (.int .i64 (0)),.v (.int .i64 (0)),.v (.int .i64 (0))],[.v (.int .i64 (1)),.v (.int .i64 (1)),.v (.int .i64 (0)),.v (.int .i64 (0))],[.v (.int .i64 (2)),.v (.int .i64 (0)),.v (.int .i64 (25)),.v (.int .i64 (2))],[.v (.int .i64 (4)),.v (.int .i64 (0)),.v (.int .i64 (0)),.v (.int .i64 (0))],[.v (.int .i64 (5)),.v (.int .i64 (0)),.v (.int .i64 (0)),.v (.int .i64 (0))],[.v (.int .i64 (1)),.v (.int .i64 (1)),.v (.int .i64 (0)),.v (.int .i64 (0))],[.v (.int .i64 (3)),.v (.int .i64 (0)),.v (.int .i64 (0)),.v (.int .i64 (0))]])]]
def er14:AV:=.x (I 0)
theorem ek14:FnC Tryz.prog 122 ea14 er14:=evF0 (M:=[]) (by kernel_rfl) (by kernel_rfl)
def ef14:Fact Tryz.prog:=⟨122,ea14,er14,fun σ=>ek14.call (by kernel_rfl) (by kernel_rfl)⟩
def ea15:List AV:=[.a [.d (.s 1 [[.v (.string ⟨#[97]⟩)],[.v (.string ⟨#[98]⟩)]]),.d (.s 4 [[.v (.int .i64 (1)),.v (.int .i64 (0)),.v (.int .i64 (0)),.v (.int .i64 (0))],[.v (.int .i64 (1)),.v (.int .i64 (1)),.v (.int .i64 (0)),.v (.int .i64 (0))],[.v (.int .i64 (2)),.v (.int .i64 (0)),.v (.int .i64 (25)),.v (.int .i64 (2))],[.v (.int .i64 (4)),.v (.int .i64 (0)),.v (.int .i64 (0)),.v (.int .i64 (0))],[.v (.int .i64 (5)),.v (.int .i64 (0)),.v (.int .i64 (0)),.v (.int .i64 (0))],[.v (.int .i64 (1)),.v (.int .i64 (1)),.v (.int .i64 (0)),.v (.int .i64 (0))],[.v (.int .i64 (3)),.v (.int .i64 (0)),.v (.int .i64 (0)),.v (.int .i64 (0))]])]]
def er15:AV:=.t [.a [.d (.s 1 [i 12584321,i 12584450,i 2279171,i 2295684,i 2312197,i 6555526,i 8636167,i 2295688,i 4441865,i 14909450,i 0,i 0,i 0,i 2097152,i 0,i 0,i 0]),I 0,I 11],.x (I 0)]
theorem ek15:FnC Tryz.prog 86 ea15 er15:=evF0 (M:=[ef14]) (by kernel_rfl) (by kernel_rfl)
def ef15:Fact Tryz.prog:=⟨86,ea15,er15,fun σ=>ek15.call (by kernel_rfl) (by kernel_rfl)⟩
def ea16:List AV:=[.x (I 16777215),.x (.d (.s 1 [i 12584321,i 12584450,i 2279171,i 2295684,i 2312197,i 6555526,i 8636167,i 2295688,i 4441865,i 14909450,i 0,i 0,i 0,i 2097152,i 0,i 0,i 0]))]
def er16:AV:=.x (.d (.v (.bool false)))
theorem ek16:FnC Tryz.prog 178 ea16 er16:=evF0 (M:=[]) (by kernel_rfl) (by kernel_rfl)
def ef16:Fact Tryz.prog:=⟨178,ea16,er16,fun σ=>ek16.call (by kernel_rfl) (by kernel_rfl)⟩
def ea17:List AV:=[.a [.d (.s 1 [i 12584321,i 12584450,i 2279171,i 2295684,i 2312197,i 6555526,i 8636167,i 2295688,i 4441865,i 14909450,i 0,i 0,i 0,i 2097152,i 0,i 0,i 0,i 0,i 0,i 0,i 0,i 0,i 0,i 0,i 0,i 0,i 0,i 0,i 0,i 0,i 0,i 0,i 0,i 0,i 0,i 0,i 0,i 0,i 0,i 0,i 0,i 0,i 0,i 0,i 0,i 0,i 0,i 0,i 0,i 0,i 0,i 0,i 0,i 0,i 0,i 0,i 0,i 0,i 0,i 0,i 0,i 0,i 0,i 0,i 0,i 0,i 0,i 0,i 0,i 0,i 0,i 0,i 0,i 0,i 0,i 0,i 0,i 0,i 0,i 0,i 0,i 0,i 0,i 0,i 0,i 0,i 0,i 0,i 0,i 0,i 0,i 0,i 0,i 0,i 0,i 0,i 0,i 0,i 0,i 0,i 0,i 0,i 0,i 0,i 0,i 0,i 0,i 0,i 0,i 0,i 0,i 0,i 0,i 0,i 0,i 0,i 0,i 0,i 0,i 0,i 0,i 0,i 0,i 0,i 0,i 0,i 0,i 0]),.d (.s 1 [i 4194304,i 4194304]),I 0,.d (.v (.slice none 0 0)),I 0,I 0,I 0,I 0],.x (I 5000)]
def er17:AV:=.t [.a [.d (.s 1 [i 12584321,i 12584450,i 2279171,i 2295684,i 2312197,i 6555526,i 8636167,i 2295688,i 4441865,i 14909450,i 0,i 4194304,i 4194304,i 2097152,i 5242880,i 4194304,i 2097152,i 0,i 0,i 0,i 0,i 0,i 0,i 0,i 0,i 0,i 0,i 0,i 0,i 0,i 0,i 0,i 0,i 0,i 0,i 0,i 0,i 0,i 0,i 0,i 0,i 0,i 0,i 0,i 0,i 0,i 0,i 0,i 0,i 0,i 0,i 0,i 0,i 0,i 0,i 0,i 0,i 0,i 0,i 0,i 0,i 0,i 0,i 0,i 0,i 0,i 0,i 0,i 0,i 0,i 0,i 0,i 0,i 0,i 0,i 0,i 0,i 0,i 0,i 0,i 0,i 0,i 0,i 0,i 0,i 0,i 0,i 0,i 0,i 0,i 0,i 0,i 0,i 0,i 0,i 0,i 0,i 0,i 0,i 0,i 0,i 0,i 0,i 0,i 0,i 0,i 0,i 0,i 0,i 0,i 0,i 0,i 0,i 0,i 0,i 0,i 0,i 0,i 0,i 0,i 0,i 0,i 0,i 0,i 0,i 0,i 0,i 0]),.d (.s 1 [i 4194304,i 4194304]),I 2,.d (.s 1 [i 5242880]),I 234,I 10,I 10,I 1],.x (I 0)]
theorem ek17:FnC Tryz.prog 105 ea17 er17:=run_fact (by kernel_rfl)
def ef17:Fact Tryz.prog:=⟨105,ea17,er17,fun σ=>ek17.call (by kernel_rfl) (by kernel_rfl)⟩
def ea18:List AV:=[.x (.d (.v (.string ⟨#[99,97,108,108,32,114,32,98,111,32,50,48,32,114,111,111,116,32,50,48,57,55,49,53,50]⟩))),.x (.d (.v (.string ⟨#[32]⟩)))]
def er18:AV:=.x (.d (.s 1 [[.v (.string ⟨#[99,97,108,108]⟩)],[.v (.string ⟨#[114]⟩)],[.v (.string ⟨#[98,111]⟩)],[.v (.string ⟨#[50,48]⟩)],[.v (.string ⟨#[114,111,111,116]⟩)],[.v (.string ⟨#[50,48,57,55,49,53,50]⟩)]]))
theorem ek18:FnC Tryz.prog 58 ea18 er18:=split_fact (by kernel_rfl)
def ef18:Fact Tryz.prog:=⟨58,ea18,er18,fun σ=>ek18.call (by kernel_rfl) (by kernel_rfl)⟩
def ea19:List AV:=[.x (.d (.v (.string ⟨#[50,48]⟩)))]
def er19:AV:=.t [.x (I 20),.x (.d (.v (.nilIface)))]
def ef19:Fact Tryz.prog:=⟨138,ea19,er19,atoi_fact (by kernel_rfl)⟩
def ea20:List AV:=[.x (I 20)]
def er20:AV:=.x (.d (.v (.string ⟨#[50,48]⟩)))
theorem ek20:FnC Tryz.prog 78 ea20 er20:=itoa_fact (by kernel_rfl)
def ef20:Fact Tryz.prog:=⟨78,ea20,er20,fun σ=>ek20.call (by kernel_rfl) (by kernel_rfl)⟩
def ea21:List AV:=[.x (.d (.v (.string ⟨#[50,48,57,55,49,53,50]⟩)))]
def er21:AV:=.t [.x (I 2097152),.x (.d (.v (.nilIface)))]
def ef21:Fact Tryz.prog:=⟨138,ea21,er21,atoi_fact (by kernel_rfl)⟩
def ea22:List AV:=[.x (I 2097152)]
def er22:AV:=.x (.d (.v (.string ⟨#[50,48,57,55,49,53,50]⟩)))
theorem ek22:FnC Tryz.prog 78 ea22 er22:=itoa_fact (by kernel_rfl)
def ef22:Fact Tryz.prog:=⟨78,ea22,er22,fun σ=>ek22.call (by kernel_rfl) (by kernel_rfl)⟩
end Go.Proofs.YtidkoikjdghlmaaGreatDoor
namespace Go.Proofs.YtidkoikjdghlmaaGreatDoor
open Go Go.QL FoT
set_option maxRecDepth 1000000
def ea23:List AV:=[.x (I 1)]
def er23:AV:=.t [.a [.d (.s 1 [i 2345473,i 6588674,i 2394499,i 4524420,i 2411141,i 8702598,i 6572679,i 6556296,i 10830986,i 2410762,i 8636939,i 2427532,i 6556301,i 10831618,i 0,i 4194304,i 1,i 0,i 0,i 0,i 0,i 0]),.d (.s 1 [i 7,i 7,i 7,i 7,i 7,i 7,i 7,i 7,i 7,i 7,i 7,i 7,i 7,i 7,i 0,i 0,i 0,i 0,i 0,i 0,i 0,i 0]),I 0,I 14,I 18,.d (.s 1 [i 17])],.x (I 0)]
theorem ek23:FnC Tryz.prog 89 ea23 er23:=evF0 (M:=[]) (by kernel_rfl) (by kernel_rfl)
def ef23:Fact Tryz.prog:=⟨89,ea23,er23,fun σ=>ek23.call (by kernel_rfl) (by kernel_rfl)⟩
def ea24:List AV:=[.x (.d (.s 1 [i 2345473,i 6588674,i 2394499,i 4524420,i 2411141,i 8702598,i 6572679,i 6556296,i 10830986,i 2410762,i 8636939,i 2427532,i 6556301,i 10831618,i 0,i 4194304,i 1,i 0,i 0,i 0,i 0,i 0])),.x (.f (.func 239) [] [])]
def er24:AV:=.x (I (-1))
theorem ek24:FnC Tryz.prog 112 ea24 er24:=evF0 (M:=[]) (by kernel_rfl) (by kernel_rfl)
def ef24:Fact Tryz.prog:=⟨112,ea24,er24,fun σ=>ek24.call (by kernel_rfl) (by kernel_rfl)⟩
def ea25:List AV:=[.x (.d (.s 1 [i 7,i 7,i 7,i 7,i 7,i 7,i 7,i 7,i 7,i 7,i 7,i 7,i 7,i 7,i 0,i 0,i 0,i 0,i 0,i 0,i 0,i 0])),.x (.f (.func 240) [] [])]
def er25:AV:=.x (I (-1))
theorem ek25:FnC Tryz.prog 112 ea25 er25:=evF0 (M:=[]) (by kernel_rfl) (by kernel_rfl)
def ef25:Fact Tryz.prog:=⟨112,ea25,er25,fun σ=>ek25.call (by kernel_rfl) (by kernel_rfl)⟩
end Go.Proofs.YtidkoikjdghlmaaGreatDoor
namespace Go.Proofs.YtidkoikjdghlmaaGreatDoor
open Go Go.QL FoT
set_option maxRecDepth 1000000
def ea26:List AV:=[.a [.d (.s 1 [i 2345473,i 6588674,i 2394499,i 4524420,i 2411141,i 8702598,i 6572679,i 6556296,i 10830986,i 2410762,i 8636939,i 2427532,i 6556301,i 10831618,i 0,i 4194304,i 1,i 0,i 0,i 0,i 0,i 0]),.d (.s 1 [i 7,i 7,i 7,i 7,i 7,i 7,i 7,i 7,i 7,i 7,i 7,i 7,i 7,i 7,i 0,i 0,i 0,i 0,i 0,i 0,i 0,i 0]),I 0,I 14,I 18,.d (.s 1 [i 17])],.x (I 9)]
def er26:AV:=.x (.d (.s 1 [i 2494090,i 6737291,i 2543116,i 4673037,i 2559758,i 8851215,i 6721296,i 6704913,i 10979603,i 2559379,i 8785556,i 2576149,i 6704918,i 10980235,i 0,i 4194304,i 1,i 0,i 0,i 0,i 0,i 0]))
theorem ek26:FnC Tryz.prog 135 ea26 er26:=evF0 (M:=[]) (by kernel_rfl) (by kernel_rfl)
def ef26:Fact Tryz.prog:=⟨135,ea26,er26,fun σ=>ek26.call (by kernel_rfl) (by kernel_rfl)⟩
def ea27:List AV:=[.x (.d (.v (.string ⟨#[114,111,111,116]⟩))),.x (.d (.s 1 [i 2097152]))]
def er27:AV:=.a [.d (.s 1 [i 12583809,i 2215170,i 2198409,i 2540548,i 14811141,i 0,i 2097155,i 0,i 0,i 2494090,i 6737291,i 2543116,i 4673037,i 2559758,i 8851215,i 6721296,i 6704913,i 10979603,i 2559379,i 8785556,i 2576149,i 6704918,i 10980235,i 0,i 4194304,i 1,i 0,i 0,i 0,i 0,i 0]),I 0,I 6]
theorem ek27:FnC Tryz.prog 87 ea27 er27:=evF0 (M:=[ef23,ef24,ef25,ef26]) (by kernel_rfl) (by kernel_rfl)
def ef27:Fact Tryz.prog:=⟨87,ea27,er27,fun σ=>ek27.call (by kernel_rfl) (by kernel_rfl)⟩
def ea28:List AV:=[.x (I 16777215),.x (.d (.s 1 [i 12583809,i 2215170,i 2198409,i 2540548,i 14811141,i 0,i 2097155,i 0,i 0,i 2494090,i 6737291,i 2543116,i 4673037,i 2559758,i 8851215,i 6721296,i 6704913,i 10979603,i 2559379,i 8785556,i 2576149,i 6704918,i 10980235,i 0,i 4194304,i 1,i 0,i 0,i 0,i 0,i 0]))]
def er28:AV:=.x (.d (.v (.bool false)))
theorem ek28:FnC Tryz.prog 178 ea28 er28:=evF0 (M:=[]) (by kernel_rfl) (by kernel_rfl)
def ef28:Fact Tryz.prog:=⟨178,ea28,er28,fun σ=>ek28.call (by kernel_rfl) (by kernel_rfl)⟩
def ea29:List AV:=[.a [.d (.s 1 [i 12583809,i 2215170,i 2198409,i 2540548,i 14811141,i 0,i 2097155,i 0,i 0,i 2494090,i 6737291,i 2543116,i 4673037,i 2559758,i 8851215,i 6721296,i 6704913,i 10979603,i 2559379,i 8785556,i 2576149,i 6704918,i 10980235,i 0,i 4194304,i 1,i 0,i 0,i 0,i 0,i 0,i 0,i 0,i 0,i 0,i 0,i 0,i 0,i 0,i 0,i 0,i 0,i 0,i 0,i 0,i 0,i 0,i 0,i 0,i 0,i 0,i 0,i 0,i 0,i 0,i 0,i 0,i 0,i 0,i 0,i 0,i 0,i 0,i 0,i 0,i 0,i 0,i 0,i 0,i 0,i 0,i 0,i 0,i 0,i 0,i 0,i 0,i 0,i 0,i 0,i 0,i 0,i 0,i 0,i 0,i 0,i 0,i 0,i 0,i 0,i 0,i 0,i 0,i 0,i 0,i 0,i 0,i 0,i 0,i 0,i 0,i 0,i 0,i 0,i 0,i 0,i 0,i 0,i 0,i 0,i 0,i 0,i 0,i 0,i 0,i 0,i 0,i 0,i 0,i 0,i 0,i 0,i 0,i 0,i 0,i 0,i 0,i 0]),.d (.s 1 [i 2097152]),I 0,.d (.v (.slice none 0 0)),I 0,I 0,I 0,I 0],.x (I 5000)]
def er29:AV:=.t [.a [.d (.s 1 [i 12583809,i 2215170,i 2198409,i 2540548,i 14811141,i 0,i 2097155,i 2097152,i 4194304,i 2494090,i 6737291,i 2543116,i 4673037,i 2559758,i 8851215,i 6721296,i 6704913,i 10979603,i 2559379,i 8785556,i 2576149,i 6704918,i 10980235,i 2097155,i 4194304,i 1,i 2097152,i 4194304,i 4194305,i 0,i 16777215,i 0,i 0,i 0,i 0,i 0,i 0,i 0,i 0,i 0,i 0,i 0,i 0,i 0,i 0,i 0,i 0,i 0,i 0,i 0,i 0,i 0,i 0,i 0,i 0,i 0,i 0,i 0,i 0,i 0,i 0,i 0,i 0,i 0,i 0,i 0,i 0,i 0,i 0,i 0,i 0,i 0,i 0,i 0,i 0,i 0,i 0,i 0,i 0,i 0,i 0,i 0,i 0,i 0,i 0,i 0,i 0,i 0,i 0,i 0,i 0,i 0,i 0,i 0,i 0,i 0,i 0,i 0,i 0,i 0,i 0,i 0,i 0,i 0,i 0,i 0,i 0,i 0,i 0,i 0,i 0,i 0,i 0,i 0,i 0,i 0,i 0,i 0,i 0,i 0,i 0,i 0,i 0,i 0,i 0,i 0,i 0,i 0]),.d (.s 1 [i 2097152]),I 1,.d (.s 1 [i 4194304]),I 6101,I 5,I 262,I 1],.x (I 0)]
theorem ek29:FnC Tryz.prog 105 ea29 er29:=run_fact (by kernel_rfl)
def ef29:Fact Tryz.prog:=⟨105,ea29,er29,fun σ=>ek29.call (by kernel_rfl) (by kernel_rfl)⟩
end Go.Proofs.YtidkoikjdghlmaaGreatDoor
namespace Go.Proofs.YtidkoikjdghlmaaGreatDoor
open Go Go.QL FoT
set_option maxRecDepth 1000000
def ea30:List AV:=[.x (.d (.v (.string ⟨#[106,111,98,32,102,32,97,110,110,32,56,32,97,32,53]⟩))),.x (.d (.v (.string ⟨#[32]⟩)))]
def er30:AV:=.x (.d (.s 1 [[.v (.string ⟨#[106,111,98]⟩)],[.v (.string ⟨#[102]⟩)],[.v (.string ⟨#[97,110,110]⟩)],[.v (.string ⟨#[56]⟩)],[.v (.string ⟨#[97]⟩)],[.v (.string ⟨#[53]⟩)]]))
theorem ek30:FnC Tryz.prog 58 ea30 er30:=split_fact (by kernel_rfl)
def ef30:Fact Tryz.prog:=⟨58,ea30,er30,fun σ=>ek30.call (by kernel_rfl) (by kernel_rfl)⟩
def ea31:List AV:=[.x (.d (.v (.string ⟨#[53]⟩)))]
def er31:AV:=.t [.x (I 5),.x (.d (.v (.nilIface)))]
def ef31:Fact Tryz.prog:=⟨138,ea31,er31,atoi_fact (by kernel_rfl)⟩
def ea32:List AV:=[.x (I 5)]
def er32:AV:=.x (.d (.v (.string ⟨#[53]⟩)))
theorem ek32:FnC Tryz.prog 78 ea32 er32:=itoa_fact (by kernel_rfl)
def ef32:Fact Tryz.prog:=⟨78,ea32,er32,fun σ=>ek32.call (by kernel_rfl) (by kernel_rfl)⟩
def ea33:List AV:=[.x (.d (.s 1 [[.v (.string ⟨#[101,114,114,111,114]⟩)],[.v (.string ⟨#[53]⟩)]])),.x (.d (.v (.string ⟨#[32]⟩)))]
def er33:AV:=.x (.d (.v (.string ⟨#[101,114,114,111,114,32,53]⟩)))
theorem ek33:FnC Tryz.prog 79 ea33 er33:=join_fact (by kernel_rfl)
def ef33:Fact Tryz.prog:=⟨79,ea33,er33,fun σ=>ek33.call (by kernel_rfl) (by kernel_rfl)⟩
def ea34:List AV:=[.x (.d (.v (.string ⟨#[114,117,110,32,49]⟩))),.x (.d (.v (.string ⟨#[32]⟩)))]
def er34:AV:=.x (.d (.s 1 [[.v (.string ⟨#[114,117,110]⟩)],[.v (.string ⟨#[49]⟩)]]))
theorem ek34:FnC Tryz.prog 58 ea34 er34:=split_fact (by kernel_rfl)
def ef34:Fact Tryz.prog:=⟨58,ea34,er34,fun σ=>ek34.call (by kernel_rfl) (by kernel_rfl)⟩
def ea35:List AV:=[.x (.d (.v (.string ⟨#[49]⟩)))]
def er35:AV:=.t [.x (I 1),.x (.d (.v (.nilIface)))]
def ef35:Fact Tryz.prog:=⟨138,ea35,er35,atoi_fact (by kernel_rfl)⟩
def ea36:List AV:=[.x (I 1)]
def er36:AV:=.x (.d (.v (.string ⟨#[49]⟩)))
theorem ek36:FnC Tryz.prog 78 ea36 er36:=itoa_fact (by kernel_rfl)
def ef36:Fact Tryz.prog:=⟨78,ea36,er36,fun σ=>ek36.call (by kernel_rfl) (by kernel_rfl)⟩
def ea37:List AV:=[.a [I 10,I 2,I 1,I 30,I 5,.d (.s 4 [[.v (.string ⟨#[102]⟩),.v (.int .i64 (0)),.v (.int .i64 (8)),.v (.int .i64 (1))],[.v (.string ⟨#[114]⟩),.v (.int .i64 (0)),.v (.int .i64 (20)),.v (.int .i64 (27))]]),.d (.v (.slice none 0 0))]]
def er37:AV:=.t [.x (I 0),.x (I 0),.x (I 0)]
theorem ek37:FnC Tryz.prog 24 ea37 er37:=evF0 (M:=[]) (by kernel_rfl) (by kernel_rfl)
def ef37:Fact Tryz.prog:=⟨24,ea37,er37,fun σ=>ek37.call (by kernel_rfl) (by kernel_rfl)⟩
def ea38:List AV:=[.x (I 3)]
def er38:AV:=.x (.d (.v (.string ⟨#[51]⟩)))
theorem ek38:FnC Tryz.prog 78 ea38 er38:=itoa_fact (by kernel_rfl)
def ef38:Fact Tryz.prog:=⟨78,ea38,er38,fun σ=>ek38.call (by kernel_rfl) (by kernel_rfl)⟩
def ea39:List AV:=[.x (I 5242880)]
def er39:AV:=.x (.d (.v (.string ⟨#[53,50,52,50,56,56,48]⟩)))
theorem ek39:FnC Tryz.prog 78 ea39 er39:=itoa_fact (by kernel_rfl)
def ef39:Fact Tryz.prog:=⟨78,ea39,er39,fun σ=>ek39.call (by kernel_rfl) (by kernel_rfl)⟩
def ea40:List AV:=[.x (.d (.s 1 [[.v (.string ⟨#[97,116]⟩)],[.v (.string ⟨#[51]⟩)],[.v (.string ⟨#[102]⟩)],[.v (.string ⟨#[53,50,52,50,56,56,48]⟩)]])),.x (.d (.v (.string ⟨#[32]⟩)))]
def er40:AV:=.x (.d (.v (.string ⟨#[97,116,32,51,32,102,32,53,50,52,50,56,56,48]⟩)))
theorem ek40:FnC Tryz.prog 79 ea40 er40:=join_fact (by kernel_rfl)
def ef40:Fact Tryz.prog:=⟨79,ea40,er40,fun σ=>ek40.call (by kernel_rfl) (by kernel_rfl)⟩
def ea41:List AV:=[.x (.d (.v (.string ⟨#[100,117,109,112,32,102,32,52]⟩))),.x (.d (.v (.string ⟨#[32]⟩)))]
def er41:AV:=.x (.d (.s 1 [[.v (.string ⟨#[100,117,109,112]⟩)],[.v (.string ⟨#[102]⟩)],[.v (.string ⟨#[52]⟩)]]))
theorem ek41:FnC Tryz.prog 58 ea41 er41:=split_fact (by kernel_rfl)
def ef41:Fact Tryz.prog:=⟨58,ea41,er41,fun σ=>ek41.call (by kernel_rfl) (by kernel_rfl)⟩
def ea42:List AV:=[.x (.d (.v (.string ⟨#[52]⟩)))]
def er42:AV:=.t [.x (I 4),.x (.d (.v (.nilIface)))]
def ef42:Fact Tryz.prog:=⟨138,ea42,er42,atoi_fact (by kernel_rfl)⟩
def ea43:List AV:=[.x (I 4)]
def er43:AV:=.x (.d (.v (.string ⟨#[52]⟩)))
theorem ek43:FnC Tryz.prog 78 ea43 er43:=itoa_fact (by kernel_rfl)
def ef43:Fact Tryz.prog:=⟨78,ea43,er43,fun σ=>ek43.call (by kernel_rfl) (by kernel_rfl)⟩
def ea44:List AV:=[.a [.d (.s 1 [i 12584321,i 12584450,i 2279171,i 2295684,i 2312197,i 6555526,i 8636167,i 2295688,i 4441865,i 14909450,i 0,i 0,i 0,i 2097152,i 0,i 0,i 0,i 0,i 0,i 0,i 0,i 0,i 0,i 0,i 0,i 0,i 0,i 0,i 0,i 0,i 0,i 0,i 0,i 0,i 0,i 0,i 0,i 0,i 0,i 0,i 0,i 0,i 0,i 0,i 0,i 0,i 0,i 0,i 0,i 0,i 0,i 0,i 0,i 0,i 0,i 0,i 0,i 0,i 0,i 0,i 0,i 0,i 0,i 0,i 0,i 0,i 0,i 0,i 0,i 0,i 0,i 0,i 0,i 0,i 0,i 0,i 0,i 0,i 0,i 0,i 0,i 0,i 0,i 0,i 0,i 0,i 0,i 0,i 0,i 0,i 0,i 0,i 0,i 0,i 0,i 0,i 0,i 0,i 0,i 0,i 0,i 0,i 0,i 0,i 0,i 0,i 0,i 0,i 0,i 0,i 0,i 0,i 0,i 0,i 0,i 0,i 0,i 0,i 0,i 0,i 0,i 0,i 0,i 0,i 0,i 0,i 0,i 0]),.d (.s 1 [i 4194304,i 4194304]),I 0,.d (.v (.slice none 0 0)),I 0,I 0,I 0,I 0],.x (I 4)]
def er44:AV:=.t [.a [.d (.s 1 [i 12584321,i 12584450,i 2279171,i 2295684,i 2312197,i 6555526,i 8636167,i 2295688,i 4441865,i 14909450,i 0,i 4194304,i 4194304,i 2097152,i 4194304,i 4194304,i 0,i 0,i 0,i 0,i 0,i 0,i 0,i 0,i 0,i 0,i 0,i 0,i 0,i 0,i 0,i 0,i 0,i 0,i 0,i 0,i 0,i 0,i 0,i 0,i 0,i 0,i 0,i 0,i 0,i 0,i 0,i 0,i 0,i 0,i 0,i 0,i 0,i 0,i 0,i 0,i 0,i 0,i 0,i 0,i 0,i 0,i 0,i 0,i 0,i 0,i 0,i 0,i 0,i 0,i 0,i 0,i 0,i 0,i 0,i 0,i 0,i 0,i 0,i 0,i 0,i 0,i 0,i 0,i 0,i 0,i 0,i 0,i 0,i 0,i 0,i 0,i 0,i 0,i 0,i 0,i 0,i 0,i 0,i 0,i 0,i 0,i 0,i 0,i 0,i 0,i 0,i 0,i 0,i 0,i 0,i 0,i 0,i 0,i 0,i 0,i 0,i 0,i 0,i 0,i 0,i 0,i 0,i 0,i 0,i 0,i 0,i 0]),.d (.s 1 [i 4194304,i 4194304]),I 2,.d (.s 1 []),I 68,I 4,I 4,I 0],.x (I 0)]
theorem ek44:FnC Tryz.prog 105 ea44 er44:=run_fact (by kernel_rfl)
def ef44:Fact Tryz.prog:=⟨105,ea44,er44,fun σ=>ek44.call (by kernel_rfl) (by kernel_rfl)⟩
def ea45:List AV:=[.a [.d (.s 1 [i 12584321,i 12584450,i 2279171,i 2295684,i 2312197,i 6555526,i 8636167,i 2295688,i 4441865,i 14909450,i 0,i 4194304,i 4194304,i 2097152,i 4194304,i 4194304,i 0,i 0,i 0,i 0,i 0,i 0,i 0,i 0,i 0,i 0,i 0,i 0,i 0,i 0,i 0,i 0,i 0,i 0,i 0,i 0,i 0,i 0,i 0,i 0,i 0,i 0,i 0,i 0,i 0,i 0,i 0,i 0,i 0,i 0,i 0,i 0,i 0,i 0,i 0,i 0,i 0,i 0,i 0,i 0,i 0,i 0,i 0,i 0,i 0,i 0,i 0,i 0,i 0,i 0,i 0,i 0,i 0,i 0,i 0,i 0,i 0,i 0,i 0,i 0,i 0,i 0,i 0,i 0,i 0,i 0,i 0,i 0,i 0,i 0,i 0,i 0,i 0,i 0,i 0,i 0,i 0,i 0,i 0,i 0,i 0,i 0,i 0,i 0,i 0,i 0,i 0,i 0,i 0,i 0,i 0,i 0,i 0,i 0,i 0,i 0,i 0,i 0,i 0,i 0,i 0,i 0,i 0,i 0,i 0,i 0,i 0,i 0]),.d (.s 1 [i 4194304,i 4194304]),I 2,.d (.s 1 []),I 68,I 4,I 4,I 0]]
def er45:AV:=.t [.x (I 0),.x (I 0),.x (I 0)]
theorem ek45:FnC Tryz.prog 153 ea45 er45:=chk_fact (by kernel_rfl)
def ef45:Fact Tryz.prog:=⟨153,ea45,er45,fun σ=>ek45.call (by kernel_rfl) (by kernel_rfl)⟩
end Go.Proofs.YtidkoikjdghlmaaGreatDoor
namespace Go.Proofs.YtidkoikjdghlmaaGreatDoor
open Go Go.QL FoT
set_option maxRecDepth 1000000
def ea46:List AV:=[.x (.d (.s 1 [i 68,i 0,i 4,i 4,i 0,i 0,i 2,i 2,i 0,i 12584321,i 12584450,i 2279171,i 2295684,i 2312197,i 6555526,i 8636167,i 2295688,i 4441865,i 14909450,i 0,i 4194304,i 4194304,i 2097152,i 4194304,i 4194304,i 0,i 0,i 0,i 0,i 0,i 0,i 0,i 0,i 0,i 0,i 0,i 0,i 0,i 0,i 0,i 0,i 0,i 0,i 0,i 0,i 0,i 0,i 0,i 0,i 0,i 0,i 0,i 0,i 0,i 0,i 0,i 0,i 0,i 0,i 0,i 0,i 0,i 0,i 0,i 0,i 0,i 0,i 0,i 0,i 0,i 0,i 0,i 0,i 0,i 0,i 0,i 0,i 0,i 0,i 0,i 0,i 0,i 0,i 0,i 0,i 0,i 0,i 0,i 0,i 0,i 0,i 0,i 0,i 0,i 0,i 0,i 0,i 0,i 0,i 0,i 0,i 0,i 0,i 0,i 0,i 0,i 0,i 0,i 0,i 0,i 0,i 0,i 0,i 0,i 0,i 0,i 0,i 0,i 0,i 0,i 0,i 0,i 0,i 0,i 0,i 0,i 0,i 0,i 0,i 0,i 0,i 0,i 0,i 0,i 0,i 0,i 0,i 4194304,i 4194304]))]
def er46:AV:=.x (.d (.s 1 [u 11,u 2,u 64,u 64,u 4,u 1,u 64,u 64,u 64,u 64,u 64,u 64,u 4,u 64,u 64,u 64,u 4,u 64,u 64,u 64,u 64,u 64,u 64,u 64,u 64,u 64,u 64,u 64,u 2,u 64,u 64,u 64,u 2,u 64,u 64,u 64,u 64,u 64,u 64,u 64,u 1,u 22,u 64,u 112,u 2,u 88,u 64,u 112,u 67,u 28,u 44,u 8,u 4,u 94,u 112,u 8,u 69,u 32,u 52,u 8,u 70,u 94,u 64,u 25,u 64,u 7,u 28,u 124,u 32,u 8,u 94,u 112,u 8,u 73,u 28,u 124,u 16,u 74,u 64,u 56,u 56,u 64,u 64,u 64,u 64,u 64,u 64,u 64,u 16,u 64,u 64,u 64,u 16,u 64,u 64,u 64,u 8,u 64,u 64,u 64,u 16,u 64,u 64,u 64,u 16,u 64,u 64,u 64,u 64,u 64,u 64,u 64,u 64,u 64,u 64,u 64,u 64,u 64,u 64,u 64,u 64,u 64,u 64,u 64,u 64,u 64,u 64,u 64,u 64,u 82,u 64,u 64,u 64,u 64,u 64,u 64,u 64,u 64,u 64,u 64,u 64,u 64,u 64,u 64,u 64,u 64,u 64,u 64,u 64,u 64,u 64,u 64,u 64,u 64,u 64,u 64,u 64,u 64,u 64,u 64,u 64,u 64,u 64,u 64,u 64,u 64,u 64,u 64,u 64,u 64,u 64,u 64,u 64,u 64,u 64,u 64,u 64,u 64,u 64,u 64,u 64,u 64,u 64,u 64,u 64,u 64,u 64,u 64,u 64,u 64,u 64,u 64,u 64,u 64,u 64,u 64,u 64,u 64,u 64,u 64,u 64,u 64,u 64,u 64,u 64,u 64,u 64,u 64,u 64,u 64,u 64,u 64,u 64,u 64,u 64,u 64,u 64,u 64,u 64,u 64,u 64,u 64,u 64,u 64,u 64,u 64,u 64,u 64,u 64,u 64,u 64,u 64,u 64,u 64,u 64,u 64,u 64,u 64,u 64,u 64,u 64,u 64,u 64,u 64,u 64,u 64,u 64,u 64,u 64,u 64,u 64,u 64,u 64,u 64,u 64,u 64,u 64,u 64,u 64,u 64,u 64,u 64,u 64,u 64,u 64,u 64,u 64,u 64,u 64,u 64,u 64,u 64,u 64,u 64,u 64,u 64,u 64,u 64,u 64,u 64,u 64,u 64,u 64,u 64,u 64,u 64,u 64,u 64,u 64,u 64,u 64,u 64,u 64,u 64,u 64,u 64,u 64,u 64,u 64,u 64,u 64,u 64,u 64,u 64,u 64,u 64,u 64,u 64,u 64,u 64,u 64,u 64,u 64,u 64,u 64,u 64,u 64,u 64,u 64,u 64,u 64,u 64,u 64,u 64,u 64,u 64,u 64,u 64,u 64,u 64,u 64,u 64,u 64,u 64,u 64,u 64,u 64,u 64,u 64,u 64,u 64,u 64,u 64,u 64,u 64,u 64,u 64,u 64,u 64,u 64,u 64,u 64,u 64,u 64,u 64,u 64,u 64,u 64,u 64,u 64,u 64,u 64,u 64,u 64,u 64,u 64,u 64,u 64,u 64,u 64,u 64,u 64,u 64,u 64,u 64,u 64,u 64,u 64,u 64,u 64,u 64,u 64,u 64,u 64,u 64,u 64,u 64,u 64,u 64,u 64,u 64,u 64,u 64,u 64,u 64,u 64,u 64,u 64,u 64,u 64,u 64,u 64,u 64,u 64,u 64,u 64,u 64,u 64,u 64,u 64,u 64,u 64,u 64,u 64,u 64,u 64,u 64,u 64,u 64,u 64,u 64,u 64,u 64,u 64,u 64,u 64,u 64,u 64,u 64,u 64,u 64,u 64,u 64,u 64,u 64,u 64,u 64,u 64,u 64,u 64,u 64,u 64,u 64,u 64,u 64,u 64,u 64,u 64,u 64,u 64,u 64,u 64,u 64,u 64,u 64,u 64,u 64,u 64,u 64,u 64,u 64,u 64,u 64,u 64,u 64,u 64,u 64,u 64,u 64,u 64,u 64,u 64,u 64,u 64,u 64,u 64,u 64,u 64,u 64,u 64,u 64,u 64,u 64,u 64,u 64,u 64,u 64,u 64,u 64,u 64,u 64,u 64,u 64,u 64,u 64,u 64,u 64,u 64,u 64,u 64,u 64,u 64,u 64,u 64,u 64,u 64,u 64,u 64,u 64,u 64,u 64,u 64,u 64,u 64,u 64,u 64,u 64,u 64,u 64,u 64,u 64,u 64,u 64,u 64,u 64,u 64,u 64,u 64,u 64,u 64,u 64,u 64,u 64,u 64,u 64,u 64,u 64,u 64,u 64,u 64,u 64,u 64,u 64,u 64,u 64,u 64,u 64,u 64,u 64,u 64,u 64,u 64,u 64,u 64,u 64,u 64,u 64,u 64,u 64,u 64,u 64,u 64,u 64,u 16,u 64,u 64,u 64,u 16,u 64,u 64,u 64,u 64,u 64,u 64,u 64,u 64,u 64,u 64,u 64,u 64,u 64,u 64,u 64,u 64,u 64]))
theorem ek46:FnC Tryz.prog 154 ea46 er46:=evF0 (M:=[]) (by kernel_rfl) (by kernel_rfl)
def ef46:Fact Tryz.prog:=⟨154,ea46,er46,fun σ=>ek46.call (by kernel_rfl) (by kernel_rfl)⟩
end Go.Proofs.YtidkoikjdghlmaaGreatDoor
namespace Go.Proofs.YtidkoikjdghlmaaGreatDoor
open Go Go.QL FoT
set_option maxRecDepth 1000000
def ea47:List AV:=[.x (.d (.s 1 [u 11,u 2,u 64,u 64,u 4,u 1,u 64,u 64,u 64,u 64,u 64,u 64,u 4,u 64,u 64,u 64,u 4,u 64,u 64,u 64,u 64,u 64,u 64,u 64,u 64,u 64,u 64,u 64,u 2,u 64,u 64,u 64,u 2,u 64,u 64,u 64,u 64,u 64,u 64,u 64,u 1,u 22,u 64,u 112,u 2,u 88,u 64,u 112,u 67,u 28,u 44,u 8,u 4,u 94,u 112,u 8,u 69,u 32,u 52,u 8,u 70,u 94,u 64,u 25,u 64,u 7,u 28,u 124,u 32,u 8,u 94,u 112,u 8,u 73,u 28,u 124,u 16,u 74,u 64,u 56,u 56,u 64,u 64,u 64,u 64,u 64,u 64,u 64,u 16,u 64,u 64,u 64,u 16,u 64,u 64,u 64,u 8,u 64,u 64,u 64,u 16,u 64,u 64,u 64,u 16,u 64,u 64,u 64,u 64,u 64,u 64,u 64,u 64,u 64,u 64,u 64,u 64,u 64,u 64,u 64,u 64,u 64,u 64,u 64,u 64,u 64,u 64,u 64,u 64,u 82,u 64,u 64,u 64,u 64,u 64,u 64,u 64,u 64,u 64,u 64,u 64,u 64,u 64,u 64,u 64,u 64,u 64,u 64,u 64,u 64,u 64,u 64,u 64,u 64,u 64,u 64,u 64,u 64,u 64,u 64,u 64,u 64,u 64,u 64,u 64,u 64,u 64,u 64,u 64,u 64,u 64,u 64,u 64,u 64,u 64,u 64,u 64,u 64,u 64,u 64,u 64,u 64,u 64,u 64,u 64,u 64,u 64,u 64,u 64,u 64,u 64,u 64,u 64,u 64,u 64,u 64,u 64,u 64,u 64,u 64,u 64,u 64,u 64,u 64,u 64,u 64,u 64,u 64,u 64,u 64,u 64,u 64,u 64,u 64,u 64,u 64,u 64,u 64,u 64,u 64,u 64,u 64,u 64,u 64,u 64,u 64,u 64,u 64,u 64,u 64,u 64,u 64,u 64,u 64,u 64,u 64,u 64,u 64,u 64,u 64,u 64,u 64,u 64,u 64,u 64,u 64,u 64,u 64,u 64,u 64,u 64,u 64,u 64,u 64,u 64,u 64,u 64,u 64,u 64,u 64,u 64,u 64,u 64,u 64,u 64,u 64,u 64,u 64,u 64,u 64,u 64,u 64,u 64,u 64,u 64,u 64,u 64,u 64,u 64,u 64,u 64,u 64,u 64,u 64,u 64,u 64,u 64,u 64,u 64,u 64,u 64,u 64,u 64,u 64,u 64,u 64,u 64,u 64,u 64,u 64,u 64,u 64,u 64,u 64,u 64,u 64,u 64,u 64,u 64,u 64,u 64,u 64,u 64,u 64,u 64,u 64,u 64,u 64,u 64,u 64,u 64,u 64,u 64,u 64,u 64,u 64,u 64,u 64,u 64,u 64,u 64,u 64,u 64,u 64,u 64,u 64,u 64,u 64,u 64,u 64,u 64,u 64,u 64,u 64,u 64,u 64,u 64,u 64,u 64,u 64,u 64,u 64,u 64,u 64,u 64,u 64,u 64,u 64,u 64,u 64,u 64,u 64,u 64,u 64,u 64,u 64,u 64,u 64,u 64,u 64,u 64,u 64,u 64,u 64,u 64,u 64,u 64,u 64,u 64,u 64,u 64,u 64,u 64,u 64,u 64,u 64,u 64,u 64,u 64,u 64,u 64,u 64,u 64,u 64,u 64,u 64,u 64,u 64,u 64,u 64,u 64,u 64,u 64,u 64,u 64,u 64,u 64,u 64,u 64,u 64,u 64,u 64,u 64,u 64,u 64,u 64,u 64,u 64,u 64,u 64,u 64,u 64,u 64,u 64,u 64,u 64,u 64,u 64,u 64,u 64,u 64,u 64,u 64,u 64,u 64,u 64,u 64,u 64,u 64,u 64,u 64,u 64,u 64,u 64,u 64,u 64,u 64,u 64,u 64,u 64,u 64,u 64,u 64,u 64,u 64,u 64,u 64,u 64,u 64,u 64,u 64,u 64,u 64,u 64,u 64,u 64,u 64,u 64,u 64,u 64,u 64,u 64,u 64,u 64,u 64,u 64,u 64,u 64,u 64,u 64,u 64,u 64,u 64,u 64,u 64,u 64,u 64,u 64,u 64,u 64,u 64,u 64,u 64,u 64,u 64,u 64,u 64,u 64,u 64,u 64,u 64,u 64,u 64,u 64,u 64,u 64,u 64,u 64,u 64,u 64,u 64,u 64,u 64,u 64,u 64,u 64,u 64,u 64,u 64,u 64,u 64,u 64,u 64,u 64,u 64,u 64,u 64,u 64,u 64,u 64,u 64,u 64,u 64,u 64,u 64,u 64,u 64,u 64,u 64,u 64,u 64,u 64,u 64,u 64,u 64,u 64,u 64,u 64,u 64,u 64,u 64,u 64,u 64,u 64,u 64,u 64,u 64,u 64,u 64,u 64,u 64,u 64,u 64,u 16,u 64,u 64,u 64,u 16,u 64,u 64,u 64,u 64,u 64,u 64,u 64,u 64,u 64,u 64,u 64,u 64,u 64,u 64,u 64,u 64,u 64]))]
def er47:AV:=.x (.d (.v (.int .u8 (124))))
theorem ek47:FnC Tryz.prog 214 ea47 er47:=evF0 (M:=[]) (by kernel_rfl) (by kernel_rfl)
def ef47:Fact Tryz.prog:=⟨214,ea47,er47,fun σ=>ek47.call (by kernel_rfl) (by kernel_rfl)⟩
def ea48:List AV:=[.x (.d (.s 1 [u 11,u 2,u 64,u 64,u 4,u 1,u 64,u 64,u 64,u 64,u 64,u 64,u 4,u 64,u 64,u 64,u 4,u 64,u 64,u 64,u 64,u 64,u 64,u 64,u 64,u 64,u 64,u 64,u 2,u 64,u 64,u 64,u 2,u 64,u 64,u 64,u 64,u 64,u 64,u 64,u 1,u 22,u 64,u 112,u 2,u 88,u 64,u 112,u 67,u 28,u 44,u 8,u 4,u 94,u 112,u 8,u 69,u 32,u 52,u 8,u 70,u 94,u 64,u 25,u 64]))]
def er48:AV:=.x (.d (.v (.int .u8 (0))))
theorem ek48:FnC Tryz.prog 212 ea48 er48:=evF0 (M:=[]) (by kernel_rfl) (by kernel_rfl)
def ef48:Fact Tryz.prog:=⟨212,ea48,er48,fun σ=>ek48.call (by kernel_rfl) (by kernel_rfl)⟩
def ea49:List AV:=[.x (.d (.s 1 [u 11,u 2,u 64,u 64,u 4,u 1,u 64,u 64,u 64,u 64,u 64,u 64,u 4,u 64,u 64,u 64,u 4,u 64,u 64,u 64,u 64,u 64,u 64,u 64,u 64,u 64,u 64,u 64,u 2,u 64,u 64,u 64,u 2,u 64,u 64,u 64,u 64,u 64,u 64,u 64,u 1,u 22,u 64,u 112,u 2,u 88,u 64,u 112,u 67,u 28,u 44,u 8,u 4,u 94,u 112,u 8,u 69,u 32,u 52,u 8,u 70,u 94,u 64,u 25,u 64]))]
def er49:AV:=.t [.x (I (-1)),.x (.d (.v (.bool true)))]
theorem ek49:FnC Tryz.prog 217 ea49 er49:=evF0 (M:=[ef48]) (by kernel_rfl) (by kernel_rfl)
def ef49:Fact Tryz.prog:=⟨217,ea49,er49,fun σ=>ek49.call (by kernel_rfl) (by kernel_rfl)⟩
def ea50:List AV:=[.x (.d (.s 1 [u 7,u 28,u 124,u 32,u 8,u 94,u 112,u 8,u 73,u 28,u 124,u 16,u 74,u 64,u 56,u 56,u 64,u 64,u 64,u 64,u 64,u 64,u 64,u 16,u 64,u 64,u 64,u 16,u 64,u 64,u 64,u 8,u 64,u 64,u 64,u 16,u 64,u 64,u 64,u 16,u 64,u 64,u 64,u 64,u 64,u 64,u 64,u 64,u 64,u 64,u 64,u 64,u 64,u 64,u 64,u 64,u 64,u 64,u 64,u 64,u 64,u 64,u 64,u 64,u 82]))]
def er50:AV:=.x (.d (.v (.int .u8 (0))))
theorem ek50:FnC Tryz.prog 212 ea50 er50:=evF0 (M:=[]) (by kernel_rfl) (by kernel_rfl)
def ef50:Fact Tryz.prog:=⟨212,ea50,er50,fun σ=>ek50.call (by kernel_rfl) (by kernel_rfl)⟩
end Go.Proofs.YtidkoikjdghlmaaGreatDoor
namespace Go.Proofs.YtidkoikjdghlmaaGreatDoor
open Go Go.QL FoT
set_option maxRecDepth 1000000
def ea51:List AV:=[.x (.d (.s 1 [u 7,u 28,u 124,u 32,u 8,u 94,u 112,u 8,u 73,u 28,u 124,u 16,u 74,u 64,u 56,u 56,u 64,u 64,u 64,u 64,u 64,u 64,u 64,u 16,u 64,u 64,u 64,u 16,u 64,u 64,u 64,u 8,u 64,u 64,u 64,u 16,u 64,u 64,u 64,u 16,u 64,u 64,u 64,u 64,u 64,u 64,u 64,u 64,u 64,u 64,u 64,u 64,u 64,u 64,u 64,u 64,u 64,u 64,u 64,u 64,u 64,u 64,u 64,u 64,u 82]))]
def er51:AV:=.t [.x (I (-1)),.x (.d (.v (.bool true)))]
theorem ek51:FnC Tryz.prog 217 ea51 er51:=evF0 (M:=[ef50]) (by kernel_rfl) (by kernel_rfl)
def ef51:Fact Tryz.prog:=⟨217,ea51,er51,fun σ=>ek51.call (by kernel_rfl) (by kernel_rfl)⟩
def ea52:List AV:=[.x (.d (.s 1 [u 64,u 64,u 64,u 64,u 64,u 64,u 64,u 64,u 64,u 64,u 64,u 64,u 64,u 64,u 64,u 64,u 64,u 64,u 64,u 64,u 64,u 64,u 64,u 64,u 64,u 64,u 64,u 64,u 64,u 64,u 64,u 64,u 64,u 64,u 64,u 64,u 64,u 64,u 64,u 64,u 64,u 64,u 64,u 64,u 64,u 64,u 64,u 64,u 64,u 64,u 64,u 64,u 64,u 64,u 64,u 64,u 64,u 64,u 64,u 64,u 64,u 64,u 64,u 64,u 64]))]
def er52:AV:=.x (.d (.v (.int .u8 (0))))
theorem ek52:FnC Tryz.prog 212 ea52 er52:=evF0 (M:=[]) (by kernel_rfl) (by kernel_rfl)
def ef52:Fact Tryz.prog:=⟨212,ea52,er52,fun σ=>ek52.call (by kernel_rfl) (by kernel_rfl)⟩
def ea53:List AV:=[.x (.d (.s 1 [u 64,u 64,u 64,u 64,u 64,u 64,u 64,u 64,u 64,u 64,u 64,u 64,u 64,u 64,u 64,u 64,u 64,u 64,u 64,u 64,u 64,u 64,u 64,u 64,u 64,u 64,u 64,u 64,u 64,u 64,u 64,u 64,u 64,u 64,u 64,u 64,u 64,u 64,u 64,u 64,u 64,u 64,u 64,u 64,u 64,u 64,u 64,u 64,u 64,u 64,u 64,u 64,u 64,u 64,u 64,u 64,u 64,u 64,u 64,u 64,u 64,u 64,u 64,u 64,u 64]))]
def er53:AV:=.t [.x (I (-1)),.x (.d (.v (.bool true)))]
theorem ek53:FnC Tryz.prog 217 ea53 er53:=evF0 (M:=[ef52]) (by kernel_rfl) (by kernel_rfl)
def ef53:Fact Tryz.prog:=⟨217,ea53,er53,fun σ=>ek53.call (by kernel_rfl) (by kernel_rfl)⟩
def ea54:List AV:=[.x (.d (.s 1 [u 64,u 64,u 64,u 64,u 64,u 64,u 64,u 64,u 64,u 64,u 64,u 64,u 64,u 64,u 64,u 64,u 64,u 64,u 64,u 64,u 64,u 64,u 64,u 64,u 64,u 64,u 64,u 64,u 64,u 64,u 64,u 64,u 64,u 64,u 64,u 64,u 64,u 64,u 64,u 64,u 64,u 64,u 64,u 16,u 64,u 64,u 64,u 16,u 64,u 64,u 64,u 64,u 64,u 64,u 64,u 64,u 64,u 64,u 64,u 64,u 64,u 64,u 64,u 64,u 64]))]
def er54:AV:=.x (.d (.v (.int .u8 (0))))
theorem ek54:FnC Tryz.prog 212 ea54 er54:=evF0 (M:=[]) (by kernel_rfl) (by kernel_rfl)
def ef54:Fact Tryz.prog:=⟨212,ea54,er54,fun σ=>ek54.call (by kernel_rfl) (by kernel_rfl)⟩
def ea55:List AV:=[.x (.d (.s 1 [u 64,u 64,u 64,u 64,u 64,u 64,u 64,u 64,u 64,u 64,u 64,u 64,u 64,u 64,u 64,u 64,u 64,u 64,u 64,u 64,u 64,u 64,u 64,u 64,u 64,u 64,u 64,u 64,u 64,u 64,u 64,u 64,u 64,u 64,u 64,u 64,u 64,u 64,u 64,u 64,u 64,u 64,u 64,u 16,u 64,u 64,u 64,u 16,u 64,u 64,u 64,u 64,u 64,u 64,u 64,u 64,u 64,u 64,u 64,u 64,u 64,u 64,u 64,u 64,u 64]))]
def er55:AV:=.t [.x (I (-1)),.x (.d (.v (.bool true)))]
theorem ek55:FnC Tryz.prog 217 ea55 er55:=evF0 (M:=[ef54]) (by kernel_rfl) (by kernel_rfl)
def ef55:Fact Tryz.prog:=⟨217,ea55,er55,fun σ=>ek55.call (by kernel_rfl) (by kernel_rfl)⟩
end Go.Proofs.YtidkoikjdghlmaaGreatDoor
namespace Go.Proofs.YtidkoikjdghlmaaGreatDoor
open Go Go.QL FoT
set_option maxRecDepth 1000000
def ea56:List AV:=[.x (.d (.s 1 [u 11,u 2,u 64,u 64,u 4,u 1,u 64,u 64,u 64,u 64,u 64,u 64,u 4,u 64,u 64,u 64,u 4,u 64,u 64,u 64,u 64,u 64,u 64,u 64,u 64,u 64,u 64,u 64,u 2,u 64,u 64,u 64,u 2,u 64,u 64,u 64,u 64,u 64,u 64,u 64,u 1,u 22,u 64,u 112,u 2,u 88,u 64,u 112,u 67,u 28,u 44,u 8,u 4,u 94,u 112,u 8,u 69,u 32,u 52,u 8,u 70,u 94,u 64,u 25,u 64,u 7,u 28,u 124,u 32,u 8,u 94,u 112,u 8,u 73,u 28,u 124,u 16,u 74,u 64,u 56,u 56,u 64,u 64,u 64,u 64,u 64,u 64,u 64,u 16,u 64,u 64,u 64,u 16,u 64,u 64,u 64,u 8,u 64,u 64,u 64,u 16,u 64,u 64,u 64,u 16,u 64,u 64,u 64,u 64,u 64,u 64,u 64,u 64,u 64,u 64,u 64,u 64,u 64,u 64,u 64,u 64,u 64,u 64,u 64,u 64,u 64,u 64,u 64,u 64,u 82,u 64,u 64,u 64,u 64,u 64,u 64,u 64,u 64,u 64,u 64,u 64,u 64,u 64,u 64,u 64,u 64,u 64,u 64,u 64,u 64,u 64,u 64,u 64,u 64,u 64,u 64,u 64,u 64,u 64,u 64,u 64,u 64,u 64,u 64,u 64,u 64,u 64,u 64,u 64,u 64,u 64,u 64,u 64,u 64,u 64,u 64,u 64,u 64,u 64,u 64,u 64,u 64,u 64,u 64,u 64,u 64,u 64,u 64,u 64,u 64,u 64,u 64,u 64,u 64,u 64,u 64,u 64,u 64,u 64,u 64,u 64,u 64,u 64,u 64,u 64,u 64,u 64,u 64,u 64,u 64,u 64,u 64,u 64,u 64,u 64,u 64,u 64,u 64,u 64,u 64,u 64,u 64,u 64,u 64,u 64,u 64,u 64,u 64,u 64,u 64,u 64,u 64,u 64,u 64,u 64,u 64,u 64,u 64,u 64,u 64,u 64,u 64,u 64,u 64,u 64,u 64,u 64,u 64,u 64,u 64,u 64,u 64,u 64,u 64,u 64,u 64,u 64,u 64,u 64,u 64,u 64,u 64,u 64,u 64,u 64,u 64,u 64,u 64,u 64,u 64,u 64,u 64,u 64,u 64,u 64,u 64,u 64,u 64,u 64,u 64,u 64,u 64,u 64,u 64,u 64,u 64,u 64,u 64,u 64,u 64,u 64,u 64,u 64,u 64,u 64,u 64,u 64,u 64,u 64,u 64,u 64,u 64,u 64,u 64,u 64,u 64,u 64,u 64,u 64,u 64,u 64,u 64,u 64,u 64,u 64,u 64,u 64,u 64,u 64,u 64,u 64,u 64,u 64,u 64,u 64,u 64,u 64,u 64,u 64,u 64,u 64,u 64,u 64,u 64,u 64,u 64,u 64,u 64,u 64,u 64,u 64,u 64,u 64,u 64,u 64,u 64,u 64,u 64,u 64,u 64,u 64,u 64,u 64,u 64,u 64,u 64,u 64,u 64,u 64,u 64,u 64,u 64,u 64,u 64,u 64,u 64,u 64,u 64,u 64,u 64,u 64,u 64,u 64,u 64,u 64,u 64,u 64,u 64,u 64,u 64,u 64,u 64,u 64,u 64,u 64,u 64,u 64,u 64,u 64,u 64,u 64,u 64,u 64,u 64,u 64,u 64,u 64,u 64,u 64,u 64,u 64,u 64,u 64,u 64,u 64,u 64,u 64,u 64,u 64,u 64,u 64,u 64,u 64,u 64,u 64,u 64,u 64,u 64,u 64,u 64,u 64,u 64,u 64,u 64,u 64,u 64,u 64,u 64,u 64,u 64,u 64,u 64,u 64,u 64,u 64,u 64,u 64,u 64,u 64,u 64,u 64,u 64,u 64,u 64,u 64,u 64,u 64,u 64,u 64,u 64,u 64,u 64,u 64,u 64,u 64,u 64,u 64,u 64,u 64,u 64,u 64,u 64,u 64,u 64,u 64,u 64,u 64,u 64,u 64,u 64,u 64,u 64,u 64,u 64,u 64,u 64,u 64,u 64,u 64,u 64,u 64,u 64,u 64,u 64,u 64,u 64,u 64,u 64,u 64,u 64,u 64,u 64,u 64,u 64,u 64,u 64,u 64,u 64,u 64,u 64,u 64,u 64,u 64,u 64,u 64,u 64,u 64,u 64,u 64,u 64,u 64,u 64,u 64,u 64,u 64,u 64,u 64,u 64,u 64,u 64,u 64,u 64,u 64,u 64,u 64,u 64,u 64,u 64,u 64,u 64,u 64,u 64,u 64,u 64,u 64,u 64,u 64,u 64,u 64,u 64,u 64,u 64,u 64,u 64,u 64,u 64,u 64,u 64,u 64,u 64,u 64,u 64,u 64,u 64,u 64,u 64,u 64,u 64,u 64,u 64,u 64,u 64,u 64,u 16,u 64,u 64,u 64,u 16,u 64,u 64,u 64,u 64,u 64,u 64,u 64,u 64,u 64,u 64,u 64,u 64,u 64,u 64,u 64,u 64,u 64])),.x (.d (.s 1 [u 11,u 2,u 64,u 64,u 4,u 1,u 64,u 64,u 64,u 64,u 64,u 64,u 4,u 64,u 64,u 64,u 4,u 64,u 64,u 64,u 64,u 64,u 64,u 64,u 64,u 64,u 64,u 64,u 2,u 64,u 64,u 64,u 2,u 64,u 64,u 64,u 64,u 64,u 64,u 64,u 1,u 22,u 64,u 112,u 2,u 88,u 64,u 112,u 67,u 28,u 44,u 8,u 4,u 94,u 112,u 8,u 69,u 32,u 52,u 8,u 70,u 94,u 64,u 25,u 64,u 7,u 28,u 124,u 32,u 8,u 94,u 112,u 8,u 73,u 28,u 124,u 16,u 74,u 64,u 56,u 56,u 64,u 64,u 64,u 64,u 64,u 64,u 64,u 16,u 64,u 64,u 64,u 16,u 64,u 64,u 64,u 8,u 64,u 64,u 64,u 16,u 64,u 64,u 64,u 16,u 64,u 64,u 64,u 64,u 64,u 64,u 64,u 64,u 64,u 64,u 64,u 64,u 64,u 64,u 64,u 64,u 64,u 64,u 64,u 64,u 64,u 64,u 64,u 64,u 82,u 64,u 64,u 64,u 64,u 64,u 64,u 64,u 64,u 64,u 64,u 64,u 64,u 64,u 64,u 64,u 64,u 64,u 64,u 64,u 64,u 64,u 64,u 64,u 64,u 64,u 64,u 64,u 64,u 64,u 64,u 64,u 64,u 64,u 64,u 64,u 64,u 64,u 64,u 64,u 64,u 64,u 64,u 64,u 64,u 64,u 64,u 64,u 64,u 64,u 64,u 64,u 64,u 64,u 64,u 64,u 64,u 64,u 64,u 64,u 64,u 64,u 64,u 64,u 64,u 64,u 64,u 64,u 64,u 64,u 64,u 64,u 64,u 64,u 64,u 64,u 64,u 64,u 64,u 64,u 64,u 64,u 64,u 64,u 64,u 64,u 64,u 64,u 64,u 64,u 64,u 64,u 64,u 64,u 64,u 64,u 64,u 64,u 64,u 64,u 64,u 64,u 64,u 64,u 64,u 64,u 64,u 64,u 64,u 64,u 64,u 64,u 64,u 64,u 64,u 64,u 64,u 64,u 64,u 64,u 64,u 64,u 64,u 64,u 64,u 64,u 64,u 64,u 64,u 64,u 64,u 64,u 64,u 64,u 64,u 64,u 64,u 64,u 64,u 64,u 64,u 64,u 64,u 64,u 64,u 64,u 64,u 64,u 64,u 64,u 64,u 64,u 64,u 64,u 64,u 64,u 64,u 64,u 64,u 64,u 64,u 64,u 64,u 64,u 64,u 64,u 64,u 64,u 64,u 64,u 64,u 64,u 64,u 64,u 64,u 64,u 64,u 64,u 64,u 64,u 64,u 64,u 64,u 64,u 64,u 64,u 64,u 64,u 64,u 64,u 64,u 64,u 64,u 64,u 64,u 64,u 64,u 64,u 64,u 64,u 64,u 64,u 64,u 64,u 64,u 64,u 64,u 64,u 64,u 64,u 64,u 64,u 64,u 64,u 64,u 64,u 64,u 64,u 64,u 64,u 64,u 64,u 64,u 64,u 64,u 64,u 64,u 64,u 64,u 64,u 64,u 64,u 64,u 64,u 64,u 64,u 64,u 64,u 64,u 64,u 64,u 64,u 64,u 64,u 64,u 64,u 64,u 64,u 64,u 64,u 64,u 64,u 64,u 64,u 64,u 64,u 64,u 64,u 64,u 64,u 64,u 64,u 64,u 64,u 64,u 64,u 64,u 64,u 64,u 64,u 64,u 64,u 64,u 64,u 64,u 64,u 64,u 64,u 64,u 64,u 64,u 64,u 64,u 64,u 64,u 64,u 64,u 64,u 64,u 64,u 64,u 64,u 64,u 64,u 64,u 64,u 64,u 64,u 64,u 64,u 64,u 64,u 64,u 64,u 64,u 64,u 64,u 64,u 64,u 64,u 64,u 64,u 64,u 64,u 64,u 64,u 64,u 64,u 64,u 64,u 64,u 64,u 64,u 64,u 64,u 64,u 64,u 64,u 64,u 64,u 64,u 64,u 64,u 64,u 64,u 64,u 64,u 64,u 64,u 64,u 64,u 64,u 64,u 64,u 64,u 64,u 64,u 64,u 64,u 64,u 64,u 64,u 64,u 64,u 64,u 64,u 64,u 64,u 64,u 64,u 64,u 64,u 64,u 64,u 64,u 64,u 64,u 64,u 64,u 64,u 64,u 64,u 64,u 64,u 64,u 64,u 64,u 64,u 64,u 64,u 64,u 64,u 64,u 64,u 64,u 64,u 64,u 64,u 64,u 64,u 64,u 64,u 64,u 64,u 64,u 64,u 64,u 64,u 64,u 64,u 64,u 64,u 64,u 64,u 64,u 64,u 64,u 64,u 64,u 64,u 64,u 64,u 64,u 64,u 64,u 64,u 64,u 64,u 64,u 64,u 64,u 64,u 64,u 64,u 64,u 64,u 64,u 64,u 64,u 64,u 64,u 64,u 64,u 64,u 16,u 64,u 64,u 64,u 16,u 64,u 64,u 64,u 64,u 64,u 64,u 64,u 64,u 64,u 64,u 64,u 64,u 64,u 64,u 64,u 64,u 64]))]
def er56:AV:=.x (.d (.v (.bool true)))
theorem ek56:FnC Tryz.prog 220 ea56 er56:=evF0 (M:=[]) (by kernel_rfl) (by kernel_rfl)
def ef56:Fact Tryz.prog:=⟨220,ea56,er56,fun σ=>ek56.call (by kernel_rfl) (by kernel_rfl)⟩
end Go.Proofs.YtidkoikjdghlmaaGreatDoor
namespace Go.Proofs.YtidkoikjdghlmaaGreatDoor
open Go Go.QL FoT
set_option maxRecDepth 1000000
def ea57:List AV:=[.x (.d (.s 1 [u 11,u 2,u 64,u 64,u 4,u 1,u 64,u 64,u 64,u 64,u 64,u 64,u 4,u 64,u 64,u 64,u 4,u 64,u 64,u 64,u 64,u 64,u 64,u 64,u 64,u 64,u 64,u 64,u 2,u 64,u 64,u 64,u 2,u 64,u 64,u 64,u 64,u 64,u 64,u 64,u 1,u 22,u 64,u 112,u 2,u 88,u 64,u 112,u 67,u 28,u 44,u 8,u 4,u 94,u 112,u 8,u 69,u 32,u 52,u 8,u 70,u 94,u 64,u 25,u 64,u 7,u 28,u 124,u 32,u 8,u 94,u 112,u 8,u 73,u 28,u 124,u 16,u 74,u 64,u 56,u 56,u 64,u 64,u 64,u 64,u 64,u 64,u 64,u 16,u 64,u 64,u 64,u 16,u 64,u 64,u 64,u 8,u 64,u 64,u 64,u 16,u 64,u 64,u 64,u 16,u 64,u 64,u 64,u 64,u 64,u 64,u 64,u 64,u 64,u 64,u 64,u 64,u 64,u 64,u 64,u 64,u 64,u 64,u 64,u 64,u 64,u 64,u 64,u 64,u 82,u 64,u 64,u 64,u 64,u 64,u 64,u 64,u 64,u 64,u 64,u 64,u 64,u 64,u 64,u 64,u 64,u 64,u 64,u 64,u 64,u 64,u 64,u 64,u 64,u 64,u 64,u 64,u 64,u 64,u 64,u 64,u 64,u 64,u 64,u 64,u 64,u 64,u 64,u 64,u 64,u 64,u 64,u 64,u 64,u 64,u 64,u 64,u 64,u 64,u 64,u 64,u 64,u 64,u 64,u 64,u 64,u 64,u 64,u 64,u 64,u 64,u 64,u 64,u 64,u 64,u 64,u 64,u 64,u 64,u 64,u 64,u 64,u 64,u 64,u 64,u 64,u 64,u 64,u 64,u 64,u 64,u 64,u 64,u 64,u 64,u 64,u 64,u 64,u 64,u 64,u 64,u 64,u 64,u 64,u 64,u 64,u 64,u 64,u 64,u 64,u 64,u 64,u 64,u 64,u 64,u 64,u 64,u 64,u 64,u 64,u 64,u 64,u 64,u 64,u 64,u 64,u 64,u 64,u 64,u 64,u 64,u 64,u 64,u 64,u 64,u 64,u 64,u 64,u 64,u 64,u 64,u 64,u 64,u 64,u 64,u 64,u 64,u 64,u 64,u 64,u 64,u 64,u 64,u 64,u 64,u 64,u 64,u 64,u 64,u 64,u 64,u 64,u 64,u 64,u 64,u 64,u 64,u 64,u 64,u 64,u 64,u 64,u 64,u 64,u 64,u 64,u 64,u 64,u 64,u 64,u 64,u 64,u 64,u 64,u 64,u 64,u 64,u 64,u 64,u 64,u 64,u 64,u 64,u 64,u 64,u 64,u 64,u 64,u 64,u 64,u 64,u 64,u 64,u 64,u 64,u 64,u 64,u 64,u 64,u 64,u 64,u 64,u 64,u 64,u 64,u 64,u 64,u 64,u 64,u 64,u 64,u 64,u 64,u 64,u 64,u 64,u 64,u 64,u 64,u 64,u 64,u 64,u 64,u 64,u 64,u 64,u 64,u 64,u 64,u 64,u 64,u 64,u 64,u 64,u 64,u 64,u 64,u 64,u 64,u 64,u 64,u 64,u 64,u 64,u 64,u 64,u 64,u 64,u 64,u 64,u 64,u 64,u 64,u 64,u 64,u 64,u 64,u 64,u 64,u 64,u 64,u 64,u 64,u 64,u 64,u 64,u 64,u 64,u 64,u 64,u 64,u 64,u 64,u 64,u 64,u 64,u 64,u 64,u 64,u 64,u 64,u 64,u 64,u 64,u 64,u 64,u 64,u 64,u 64,u 64,u 64,u 64,u 64,u 64,u 64,u 64,u 64,u 64,u 64,u 64,u 64,u 64,u 64,u 64,u 64,u 64,u 64,u 64,u 64,u 64,u 64,u 64,u 64,u 64,u 64,u 64,u 64,u 64,u 64,u 64,u 64,u 64,u 64,u 64,u 64,u 64,u 64,u 64,u 64,u 64,u 64,u 64,u 64,u 64,u 64,u 64,u 64,u 64,u 64,u 64,u 64,u 64,u 64,u 64,u 64,u 64,u 64,u 64,u 64,u 64,u 64,u 64,u 64,u 64,u 64,u 64,u 64,u 64,u 64,u 64,u 64,u 64,u 64,u 64,u 64,u 64,u 64,u 64,u 64,u 64,u 64,u 64,u 64,u 64,u 64,u 64,u 64,u 64,u 64,u 64,u 64,u 64,u 64,u 64,u 64,u 64,u 64,u 64,u 64,u 64,u 64,u 64,u 64,u 64,u 64,u 64,u 64,u 64,u 64,u 64,u 64,u 64,u 64,u 64,u 64,u 64,u 64,u 64,u 64,u 64,u 64,u 64,u 64,u 64,u 64,u 64,u 64,u 64,u 64,u 64,u 64,u 64,u 64,u 64,u 64,u 64,u 64,u 64,u 64,u 64,u 64,u 64,u 64,u 16,u 64,u 64,u 64,u 16,u 64,u 64,u 64,u 64,u 64,u 64,u 64,u 64,u 64,u 64,u 64,u 64,u 64,u 64,u 64,u 64,u 64]))]
def er57:AV:=.t [.x (.d (.s 1 [i 68,i 0,i 4,i 4,i 0,i 0,i 2,i 2,i 0,i 12584321,i 12584450,i 2279171,i 2295684,i 2312197,i 6555526,i 8636167,i 2295688,i 4441865,i 14909450,i 0,i 4194304,i 4194304,i 2097152,i 4194304,i 4194304,i 0,i 0,i 0,i 0,i 0,i 0,i 0,i 0,i 0,i 0,i 0,i 0,i 0,i 0,i 0,i 0,i 0,i 0,i 0,i 0,i 0,i 0,i 0,i 0,i 0,i 0,i 0,i 0,i 0,i 0,i 0,i 0,i 0,i 0,i 0,i 0,i 0,i 0,i 0,i 0,i 0,i 0,i 0,i 0,i 0,i 0,i 0,i 0,i 0,i 0,i 0,i 0,i 0,i 0,i 0,i 0,i 0,i 0,i 0,i 0,i 0,i 0,i 0,i 0,i 0,i 0,i 0,i 0,i 0,i 0,i 0,i 0,i 0,i 0,i 0,i 0,i 0,i 0,i 0,i 0,i 0,i 0,i 0,i 0,i 0,i 0,i 0,i 0,i 0,i 0,i 0,i 0,i 0,i 0,i 0,i 0,i 0,i 0,i 0,i 0,i 0,i 0,i 0,i 0,i 0,i 0,i 0,i 0,i 0,i 0,i 0,i 0,i 4194304,i 4194304])),.x (.d (.v (.slice none 0 0))),.x (I 0),.x (I 0)]
theorem ek57:FnC Tryz.prog 159 ea57 er57:=evF0 (M:=[ef47,ef49,ef51,ef53,ef55,ef46,ef56]) (by kernel_rfl) (by kernel_rfl)
def ef57:Fact Tryz.prog:=⟨159,ea57,er57,fun σ=>ek57.call (by kernel_rfl) (by kernel_rfl)⟩
end Go.Proofs.YtidkoikjdghlmaaGreatDoor
namespace Go.Proofs.YtidkoikjdghlmaaGreatDoor
open Go Go.QL FoT
set_option maxRecDepth 1000000
def ea58:List AV:=[.a [.d (.s 1 [i 12584321,i 12584450,i 2279171,i 2295684,i 2312197,i 6555526,i 8636167,i 2295688,i 4441865,i 14909450,i 0,i 4194304,i 4194304,i 2097152,i 4194304,i 4194304,i 0,i 0,i 0,i 0,i 0,i 0,i 0,i 0,i 0,i 0,i 0,i 0,i 0,i 0,i 0,i 0,i 0,i 0,i 0,i 0,i 0,i 0,i 0,i 0,i 0,i 0,i 0,i 0,i 0,i 0,i 0,i 0,i 0,i 0,i 0,i 0,i 0,i 0,i 0,i 0,i 0,i 0,i 0,i 0,i 0,i 0,i 0,i 0,i 0,i 0,i 0,i 0,i 0,i 0,i 0,i 0,i 0,i 0,i 0,i 0,i 0,i 0,i 0,i 0,i 0,i 0,i 0,i 0,i 0,i 0,i 0,i 0,i 0,i 0,i 0,i 0,i 0,i 0,i 0,i 0,i 0,i 0,i 0,i 0,i 0,i 0,i 0,i 0,i 0,i 0,i 0,i 0,i 0,i 0,i 0,i 0,i 0,i 0,i 0,i 0,i 0,i 0,i 0,i 0,i 0,i 0,i 0,i 0,i 0,i 0,i 0,i 0]),.d (.s 1 [i 4194304,i 4194304]),I 2,.d (.v (.slice none 0 0)),I 68,I 4,I 4,I 0]]
def er58:AV:=.t [.x (I 0),.x (I 0),.x (I 0)]
theorem ek58:FnC Tryz.prog 153 ea58 er58:=chk_fact (by kernel_rfl)
def ef58:Fact Tryz.prog:=⟨153,ea58,er58,fun σ=>ek58.call (by kernel_rfl) (by kernel_rfl)⟩
def ea59:List AV:=[.x (.d (.s 1 [u 11,u 2,u 64,u 64,u 4,u 1,u 64,u 64,u 64,u 64,u 64,u 64,u 4,u 64,u 64,u 64,u 4,u 64,u 64,u 64,u 64,u 64,u 64,u 64,u 64,u 64,u 64,u 64,u 2,u 64,u 64,u 64,u 2,u 64,u 64,u 64,u 64,u 64,u 64,u 64,u 1,u 22,u 64,u 112,u 2,u 88,u 64,u 112,u 67,u 28,u 44,u 8,u 4,u 94,u 112,u 8,u 69,u 32,u 52,u 8,u 70,u 94,u 64,u 25,u 64,u 7,u 28,u 124,u 32,u 8,u 94,u 112,u 8,u 73,u 28,u 124,u 16,u 74,u 64,u 56,u 56,u 64,u 64,u 64,u 64,u 64,u 64,u 64,u 16,u 64,u 64,u 64,u 16,u 64,u 64,u 64,u 8,u 64,u 64,u 64,u 16,u 64,u 64,u 64,u 16,u 64,u 64,u 64,u 64,u 64,u 64,u 64,u 64,u 64,u 64,u 64,u 64,u 64,u 64,u 64,u 64,u 64,u 64,u 64,u 64,u 64,u 64,u 64,u 64,u 82,u 64,u 64,u 64,u 64,u 64,u 64,u 64,u 64,u 64,u 64,u 64,u 64,u 64,u 64,u 64,u 64,u 64,u 64,u 64,u 64,u 64,u 64,u 64,u 64,u 64,u 64,u 64,u 64,u 64,u 64,u 64,u 64,u 64,u 64,u 64,u 64,u 64,u 64,u 64,u 64,u 64,u 64,u 64,u 64,u 64,u 64,u 64,u 64,u 64,u 64,u 64,u 64,u 64,u 64,u 64,u 64,u 64,u 64,u 64,u 64,u 64,u 64,u 64,u 64,u 64,u 64,u 64,u 64,u 64,u 64,u 64,u 64,u 64,u 64,u 64,u 64,u 64,u 64,u 64,u 64,u 64,u 64,u 64,u 64,u 64,u 64,u 64,u 64,u 64,u 64,u 64,u 64,u 64,u 64,u 64,u 64,u 64,u 64,u 64,u 64,u 64,u 64,u 64,u 64,u 64,u 64,u 64,u 64,u 64,u 64,u 64,u 64,u 64,u 64,u 64,u 64,u 64,u 64,u 64,u 64,u 64,u 64,u 64,u 64,u 64,u 64,u 64,u 64,u 64,u 64,u 64,u 64,u 64,u 64,u 64,u 64,u 64,u 64,u 64,u 64,u 64,u 64,u 64,u 64,u 64,u 64,u 64,u 64,u 64,u 64,u 64,u 64,u 64,u 64,u 64,u 64,u 64,u 64,u 64,u 64,u 64,u 64,u 64,u 64,u 64,u 64,u 64,u 64,u 64,u 64,u 64,u 64,u 64,u 64,u 64,u 64,u 64,u 64,u 64,u 64,u 64,u 64,u 64,u 64,u 64,u 64,u 64,u 64,u 64,u 64,u 64,u 64,u 64,u 64,u 64,u 64,u 64,u 64,u 64,u 64,u 64,u 64,u 64,u 64,u 64,u 64,u 64,u 64,u 64,u 64,u 64,u 64,u 64,u 64,u 64,u 64,u 64,u 64,u 64,u 64,u 64,u 64,u 64,u 64,u 64,u 64,u 64,u 64,u 64,u 64,u 64,u 64,u 64,u 64,u 64,u 64,u 64,u 64,u 64,u 64,u 64,u 64,u 64,u 64,u 64,u 64,u 64,u 64,u 64,u 64,u 64,u 64,u 64,u 64,u 64,u 64,u 64,u 64,u 64,u 64,u 64,u 64,u 64,u 64,u 64,u 64,u 64,u 64,u 64,u 64,u 64,u 64,u 64,u 64,u 64,u 64,u 64,u 64,u 64,u 64,u 64,u 64,u 64,u 64,u 64,u 64,u 64,u 64,u 64,u 64,u 64,u 64,u 64,u 64,u 64,u 64,u 64,u 64,u 64,u 64,u 64,u 64,u 64,u 64,u 64,u 64,u 64,u 64,u 64,u 64,u 64,u 64,u 64,u 64,u 64,u 64,u 64,u 64,u 64,u 64,u 64,u 64,u 64,u 64,u 64,u 64,u 64,u 64,u 64,u 64,u 64,u 64,u 64,u 64,u 64,u 64,u 64,u 64,u 64,u 64,u 64,u 64,u 64,u 64,u 64,u 64,u 64,u 64,u 64,u 64,u 64,u 64,u 64,u 64,u 64,u 64,u 64,u 64,u 64,u 64,u 64,u 64,u 64,u 64,u 64,u 64,u 64,u 64,u 64,u 64,u 64,u 64,u 64,u 64,u 64,u 64,u 64,u 64,u 64,u 64,u 64,u 64,u 64,u 64,u 64,u 64,u 64,u 64,u 64,u 64,u 64,u 64,u 64,u 64,u 64,u 64,u 64,u 64,u 64,u 64,u 64,u 64,u 64,u 64,u 64,u 64,u 64,u 64,u 64,u 64,u 64,u 64,u 64,u 64,u 64,u 64,u 64,u 64,u 64,u 64,u 64,u 64,u 64,u 64,u 64,u 64,u 64,u 64,u 64,u 64,u 64,u 64,u 64,u 16,u 64,u 64,u 64,u 16,u 64,u 64,u 64,u 64,u 64,u 64,u 64,u 64,u 64,u 64,u 64,u 64,u 64,u 64,u 64,u 64,u 64]))]
def er59:AV:=.t [.a [.d (.s 1 [i 12584321,i 12584450,i 2279171,i 2295684,i 2312197,i 6555526,i 8636167,i 2295688,i 4441865,i 14909450,i 0,i 4194304,i 4194304,i 2097152,i 4194304,i 4194304,i 0,i 0,i 0,i 0,i 0,i 0,i 0,i 0,i 0,i 0,i 0,i 0,i 0,i 0,i 0,i 0,i 0,i 0,i 0,i 0,i 0,i 0,i 0,i 0,i 0,i 0,i 0,i 0,i 0,i 0,i 0,i 0,i 0,i 0,i 0,i 0,i 0,i 0,i 0,i 0,i 0,i 0,i 0,i 0,i 0,i 0,i 0,i 0,i 0,i 0,i 0,i 0,i 0,i 0,i 0,i 0,i 0,i 0,i 0,i 0,i 0,i 0,i 0,i 0,i 0,i 0,i 0,i 0,i 0,i 0,i 0,i 0,i 0,i 0,i 0,i 0,i 0,i 0,i 0,i 0,i 0,i 0,i 0,i 0,i 0,i 0,i 0,i 0,i 0,i 0,i 0,i 0,i 0,i 0,i 0,i 0,i 0,i 0,i 0,i 0,i 0,i 0,i 0,i 0,i 0,i 0,i 0,i 0,i 0,i 0,i 0,i 0]),.d (.s 1 [i 4194304,i 4194304]),I 2,.d (.s 1 []),I 68,I 4,I 4,I 0],.x (I 0)]
theorem ek59:FnC Tryz.prog 106 ea59 er59:=evF0 (M:=[ef57,ef45,ef58]) (by kernel_rfl) (by kernel_rfl)
def ef59:Fact Tryz.prog:=⟨106,ea59,er59,fun σ=>ek59.call (by kernel_rfl) (by kernel_rfl)⟩
def ea60:List AV:=[.a [.d (.s 1 [i 12584321,i 12584450,i 2279171,i 2295684,i 2312197,i 6555526,i 8636167,i 2295688,i 4441865,i 14909450,i 0,i 4194304,i 4194304,i 2097152,i 4194304,i 4194304,i 0,i 0,i 0,i 0,i 0,i 0,i 0,i 0,i 0,i 0,i 0,i 0,i 0,i 0,i 0,i 0,i 0,i 0,i 0,i 0,i 0,i 0,i 0,i 0,i 0,i 0,i 0,i 0,i 0,i 0,i 0,i 0,i 0,i 0,i 0,i 0,i 0,i 0,i 0,i 0,i 0,i 0,i 0,i 0,i 0,i 0,i 0,i 0,i 0,i 0,i 0,i 0,i 0,i 0,i 0,i 0,i 0,i 0,i 0,i 0,i 0,i 0,i 0,i 0,i 0,i 0,i 0,i 0,i 0,i 0,i 0,i 0,i 0,i 0,i 0,i 0,i 0,i 0,i 0,i 0,i 0,i 0,i 0,i 0,i 0,i 0,i 0,i 0,i 0,i 0,i 0,i 0,i 0,i 0,i 0,i 0,i 0,i 0,i 0,i 0,i 0,i 0,i 0,i 0,i 0,i 0,i 0,i 0,i 0,i 0,i 0,i 0]),.d (.s 1 [i 4194304,i 4194304]),I 2,.d (.s 1 []),I 68,I 4,I 4,I 0],.x (I 5000)]
def er60:AV:=.t [.a [.d (.s 1 [i 12584321,i 12584450,i 2279171,i 2295684,i 2312197,i 6555526,i 8636167,i 2295688,i 4441865,i 14909450,i 0,i 4194304,i 4194304,i 2097152,i 5242880,i 4194304,i 2097152,i 0,i 0,i 0,i 0,i 0,i 0,i 0,i 0,i 0,i 0,i 0,i 0,i 0,i 0,i 0,i 0,i 0,i 0,i 0,i 0,i 0,i 0,i 0,i 0,i 0,i 0,i 0,i 0,i 0,i 0,i 0,i 0,i 0,i 0,i 0,i 0,i 0,i 0,i 0,i 0,i 0,i 0,i 0,i 0,i 0,i 0,i 0,i 0,i 0,i 0,i 0,i 0,i 0,i 0,i 0,i 0,i 0,i 0,i 0,i 0,i 0,i 0,i 0,i 0,i 0,i 0,i 0,i 0,i 0,i 0,i 0,i 0,i 0,i 0,i 0,i 0,i 0,i 0,i 0,i 0,i 0,i 0,i 0,i 0,i 0,i 0,i 0,i 0,i 0,i 0,i 0,i 0,i 0,i 0,i 0,i 0,i 0,i 0,i 0,i 0,i 0,i 0,i 0,i 0,i 0,i 0,i 0,i 0,i 0,i 0,i 0]),.d (.s 1 [i 4194304,i 4194304]),I 2,.d (.s 1 [i 5242880]),I 234,I 10,I 10,I 1],.x (I 0)]
theorem ek60:FnC Tryz.prog 105 ea60 er60:=run_fact (by kernel_rfl)
def ef60:Fact Tryz.prog:=⟨105,ea60,er60,fun σ=>ek60.call (by kernel_rfl) (by kernel_rfl)⟩
def ea61:List AV:=[.x (I 585)]
def er61:AV:=.x (.d (.v (.string ⟨#[53,56,53]⟩)))
theorem ek61:FnC Tryz.prog 78 ea61 er61:=itoa_fact (by kernel_rfl)
def ef61:Fact Tryz.prog:=⟨78,ea61,er61,fun σ=>ek61.call (by kernel_rfl) (by kernel_rfl)⟩
def ea62:List AV:=[.x (.d (.s 1 [[.v (.string ⟨#[53,56,53]⟩)],[.v (.string ⟨#[53,50,52,50,56,56,48]⟩)]])),.x (.d (.v (.string ⟨#[32]⟩)))]
def er62:AV:=.x (.d (.v (.string ⟨#[53,56,53,32,53,50,52,50,56,56,48]⟩)))
theorem ek62:FnC Tryz.prog 79 ea62 er62:=join_fact (by kernel_rfl)
def ef62:Fact Tryz.prog:=⟨79,ea62,er62,fun σ=>ek62.call (by kernel_rfl) (by kernel_rfl)⟩
def ea63:List AV:=[.x (.d (.v (.string ⟨#[116,119,105,110,32,102,32,54,32,49,52,32,56]⟩))),.x (.d (.v (.string ⟨#[32]⟩)))]
def er63:AV:=.x (.d (.s 1 [[.v (.string ⟨#[116,119,105,110]⟩)],[.v (.string ⟨#[102]⟩)],[.v (.string ⟨#[54]⟩)],[.v (.string ⟨#[49,52]⟩)],[.v (.string ⟨#[56]⟩)]]))
theorem ek63:FnC Tryz.prog 58 ea63 er63:=split_fact (by kernel_rfl)
def ef63:Fact Tryz.prog:=⟨58,ea63,er63,fun σ=>ek63.call (by kernel_rfl) (by kernel_rfl)⟩
def ea64:List AV:=[.x (.d (.v (.string ⟨#[54]⟩)))]
def er64:AV:=.t [.x (I 6),.x (.d (.v (.nilIface)))]
def ef64:Fact Tryz.prog:=⟨138,ea64,er64,atoi_fact (by kernel_rfl)⟩
def ea65:List AV:=[.x (I 6)]
def er65:AV:=.x (.d (.v (.string ⟨#[54]⟩)))
theorem ek65:FnC Tryz.prog 78 ea65 er65:=itoa_fact (by kernel_rfl)
def ef65:Fact Tryz.prog:=⟨78,ea65,er65,fun σ=>ek65.call (by kernel_rfl) (by kernel_rfl)⟩
def ea66:List AV:=[.x (.d (.v (.string ⟨#[49,52]⟩)))]
def er66:AV:=.t [.x (I 14),.x (.d (.v (.nilIface)))]
def ef66:Fact Tryz.prog:=⟨138,ea66,er66,atoi_fact (by kernel_rfl)⟩
def ea67:List AV:=[.x (I 14)]
def er67:AV:=.x (.d (.v (.string ⟨#[49,52]⟩)))
theorem ek67:FnC Tryz.prog 78 ea67 er67:=itoa_fact (by kernel_rfl)
def ef67:Fact Tryz.prog:=⟨78,ea67,er67,fun σ=>ek67.call (by kernel_rfl) (by kernel_rfl)⟩
def ea68:List AV:=[.a [.d (.s 1 [i 12584321,i 12584450,i 2279171,i 2295684,i 2312197,i 6555526,i 8636167,i 2295688,i 4441865,i 14909450,i 0,i 0,i 0,i 2097152,i 0,i 0,i 0,i 0,i 0,i 0,i 0,i 0,i 0,i 0,i 0,i 0,i 0,i 0,i 0,i 0,i 0,i 0,i 0,i 0,i 0,i 0,i 0,i 0,i 0,i 0,i 0,i 0,i 0,i 0,i 0,i 0,i 0,i 0,i 0,i 0,i 0,i 0,i 0,i 0,i 0,i 0,i 0,i 0,i 0,i 0,i 0,i 0,i 0,i 0,i 0,i 0,i 0,i 0,i 0,i 0,i 0,i 0,i 0,i 0,i 0,i 0,i 0,i 0,i 0,i 0,i 0,i 0,i 0,i 0,i 0,i 0,i 0,i 0,i 0,i 0,i 0,i 0,i 0,i 0,i 0,i 0,i 0,i 0,i 0,i 0,i 0,i 0,i 0,i 0,i 0,i 0,i 0,i 0,i 0,i 0,i 0,i 0,i 0,i 0,i 0,i 0,i 0,i 0,i 0,i 0,i 0,i 0,i 0,i 0,i 0,i 0,i 0,i 0]),.d (.s 1 [i 4194304,i 4194304]),I 0,.d (.v (.slice none 0 0)),I 0,I 0,I 0,I 0]]
def er68:AV:=.t [.x (I 0),.x (I 0),.x (I 0)]
theorem ek68:FnC Tryz.prog 153 ea68 er68:=chk_fact (by kernel_rfl)
def ef68:Fact Tryz.prog:=⟨153,ea68,er68,fun σ=>ek68.call (by kernel_rfl) (by kernel_rfl)⟩
def ea69:List AV:=[.a [.d (.s 1 [i 12584321,i 12584450,i 2279171,i 2295684,i 2312197,i 6555526,i 8636167,i 2295688,i 4441865,i 14909450,i 0,i 0,i 0,i 2097152,i 0,i 0,i 0,i 0,i 0,i 0,i 0,i 0,i 0,i 0,i 0,i 0,i 0,i 0,i 0,i 0,i 0,i 0,i 0,i 0,i 0,i 0,i 0,i 0,i 0,i 0,i 0,i 0,i 0,i 0,i 0,i 0,i 0,i 0,i 0,i 0,i 0,i 0,i 0,i 0,i 0,i 0,i 0,i 0,i 0,i 0,i 0,i 0,i 0,i 0,i 0,i 0,i 0,i 0,i 0,i 0,i 0,i 0,i 0,i 0,i 0,i 0,i 0,i 0,i 0,i 0,i 0,i 0,i 0,i 0,i 0,i 0,i 0,i 0,i 0,i 0,i 0,i 0,i 0,i 0,i 0,i 0,i 0,i 0,i 0,i 0,i 0,i 0,i 0,i 0,i 0,i 0,i 0,i 0,i 0,i 0,i 0,i 0,i 0,i 0,i 0,i 0,i 0,i 0,i 0,i 0,i 0,i 0,i 0,i 0,i 0,i 0,i 0,i 0]),.d (.s 1 [i 4194304,i 4194304]),I 0,.d (.v (.slice none 0 0)),I 0,I 0,I 0,I 0],.x (I 1)]
def er69:AV:=.t [.a [.d (.s 1 [i 12584321,i 12584450,i 2279171,i 2295684,i 2312197,i 6555526,i 8636167,i 2295688,i 4441865,i 14909450,i 0,i 4194304,i 0,i 2097152,i 0,i 0,i 0,i 0,i 0,i 0,i 0,i 0,i 0,i 0,i 0,i 0,i 0,i 0,i 0,i 0,i 0,i 0,i 0,i 0,i 0,i 0,i 0,i 0,i 0,i 0,i 0,i 0,i 0,i 0,i 0,i 0,i 0,i 0,i 0,i 0,i 0,i 0,i 0,i 0,i 0,i 0,i 0,i 0,i 0,i 0,i 0,i 0,i 0,i 0,i 0,i 0,i 0,i 0,i 0,i 0,i 0,i 0,i 0,i 0,i 0,i 0,i 0,i 0,i 0,i 0,i 0,i 0,i 0,i 0,i 0,i 0,i 0,i 0,i 0,i 0,i 0,i 0,i 0,i 0,i 0,i 0,i 0,i 0,i 0,i 0,i 0,i 0,i 0,i 0,i 0,i 0,i 0,i 0,i 0,i 0,i 0,i 0,i 0,i 0,i 0,i 0,i 0,i 0,i 0,i 0,i 0,i 0,i 0,i 0,i 0,i 0,i 0,i 0]),.d (.s 1 [i 4194304,i 4194304]),I 1,.d (.s 1 []),I 17,I 1,I 1,I 0],.x (I 0)]
theorem ek69:FnC Tryz.prog 105 ea69 er69:=run_fact (by kernel_rfl)
def ef69:Fact Tryz.prog:=⟨105,ea69,er69,fun σ=>ek69.call (by kernel_rfl) (by kernel_rfl)⟩
def ea70:List AV:=[.x (.d (.s 1 [i 12584321,i 12584450,i 2279171,i 2295684,i 2312197,i 6555526,i 8636167,i 2295688,i 4441865,i 14909450,i 0,i 4194304,i 0,i 2097152,i 0,i 0,i 0,i 0,i 0,i 0,i 0,i 0,i 0,i 0,i 0,i 0,i 0,i 0,i 0,i 0,i 0,i 0,i 0,i 0,i 0,i 0,i 0,i 0,i 0,i 0,i 0,i 0,i 0,i 0,i 0,i 0,i 0,i 0,i 0,i 0,i 0,i 0,i 0,i 0,i 0,i 0,i 0,i 0,i 0,i 0,i 0,i 0,i 0,i 0,i 0,i 0,i 0,i 0,i 0,i 0,i 0,i 0,i 0,i 0,i 0,i 0,i 0,i 0,i 0,i 0,i 0,i 0,i 0,i 0,i 0,i 0,i 0,i 0,i 0,i 0,i 0,i 0,i 0,i 0,i 0,i 0,i 0,i 0,i 0,i 0,i 0,i 0,i 0,i 0,i 0,i 0,i 0,i 0,i 0,i 0,i 0,i 0,i 0,i 0,i 0,i 0,i 0,i 0,i 0,i 0,i 0,i 0,i 0,i 0,i 0,i 0,i 0,i 0])),.x (.d (.s 1 [i 12584321,i 12584450,i 2279171,i 2295684,i 2312197,i 6555526,i 8636167,i 2295688,i 4441865,i 14909450,i 0,i 4194304,i 0,i 2097152,i 0,i 0,i 0,i 0,i 0,i 0,i 0,i 0,i 0,i 0,i 0,i 0,i 0,i 0,i 0,i 0,i 0,i 0,i 0,i 0,i 0,i 0,i 0,i 0,i 0,i 0,i 0,i 0,i 0,i 0,i 0,i 0,i 0,i 0,i 0,i 0,i 0,i 0,i 0,i 0,i 0,i 0,i 0,i 0,i 0,i 0,i 0,i 0,i 0,i 0,i 0,i 0,i 0,i 0,i 0,i 0,i 0,i 0,i 0,i 0,i 0,i 0,i 0,i 0,i 0,i 0,i 0,i 0,i 0,i 0,i 0,i 0,i 0,i 0,i 0,i 0,i 0,i 0,i 0,i 0,i 0,i 0,i 0,i 0,i 0,i 0,i 0,i 0,i 0,i 0,i 0,i 0,i 0,i 0,i 0,i 0,i 0,i 0,i 0,i 0,i 0,i 0,i 0,i 0,i 0,i 0,i 0,i 0,i 0,i 0,i 0,i 0,i 0,i 0]))]
def er70:AV:=.x (.d (.v (.bool true)))
theorem ek70:FnC Tryz.prog 206 ea70 er70:=evF0 (M:=[]) (by kernel_rfl) (by kernel_rfl)
def ef70:Fact Tryz.prog:=⟨206,ea70,er70,fun σ=>ek70.call (by kernel_rfl) (by kernel_rfl)⟩
def ea71:List AV:=[.a [.d (.s 1 [i 12584321,i 12584450,i 2279171,i 2295684,i 2312197,i 6555526,i 8636167,i 2295688,i 4441865,i 14909450,i 0,i 4194304,i 0,i 2097152,i 0,i 0,i 0,i 0,i 0,i 0,i 0,i 0,i 0,i 0,i 0,i 0,i 0,i 0,i 0,i 0,i 0,i 0,i 0,i 0,i 0,i 0,i 0,i 0,i 0,i 0,i 0,i 0,i 0,i 0,i 0,i 0,i 0,i 0,i 0,i 0,i 0,i 0,i 0,i 0,i 0,i 0,i 0,i 0,i 0,i 0,i 0,i 0,i 0,i 0,i 0,i 0,i 0,i 0,i 0,i 0,i 0,i 0,i 0,i 0,i 0,i 0,i 0,i 0,i 0,i 0,i 0,i 0,i 0,i 0,i 0,i 0,i 0,i 0,i 0,i 0,i 0,i 0,i 0,i 0,i 0,i 0,i 0,i 0,i 0,i 0,i 0,i 0,i 0,i 0,i 0,i 0,i 0,i 0,i 0,i 0,i 0,i 0,i 0,i 0,i 0,i 0,i 0,i 0,i 0,i 0,i 0,i 0,i 0,i 0,i 0,i 0,i 0,i 0]),.d (.s 1 [i 4194304,i 4194304]),I 1,.d (.s 1 []),I 17,I 1,I 1,I 0],.x (I 1)]
def er71:AV:=.t [.a [.d (.s 1 [i 12584321,i 12584450,i 2279171,i 2295684,i 2312197,i 6555526,i 8636167,i 2295688,i 4441865,i 14909450,i 0,i 4194304,i 4194304,i 2097152,i 0,i 0,i 0,i 0,i 0,i 0,i 0,i 0,i 0,i 0,i 0,i 0,i 0,i 0,i 0,i 0,i 0,i 0,i 0,i 0,i 0,i 0,i 0,i 0,i 0,i 0,i 0,i 0,i 0,i 0,i 0,i 0,i 0,i 0,i 0,i 0,i 0,i 0,i 0,i 0,i 0,i 0,i 0,i 0,i 0,i 0,i 0,i 0,i 0,i 0,i 0,i 0,i 0,i 0,i 0,i 0,i 0,i 0,i 0,i 0,i 0,i 0,i 0,i 0,i 0,i 0,i 0,i 0,i 0,i 0,i 0,i 0,i 0,i 0,i 0,i 0,i 0,i 0,i 0,i 0,i 0,i 0,i 0,i 0,i 0,i 0,i 0,i 0,i 0,i 0,i 0,i 0,i 0,i 0,i 0,i 0,i 0,i 0,i 0,i 0,i 0,i 0,i 0,i 0,i 0,i 0,i 0,i 0,i 0,i 0,i 0,i 0,i 0,i 0]),.d (.s 1 [i 4194304,i 4194304]),I 2,.d (.s 1 []),I 34,I 2,I 2,I 0],.x (I 0)]
theorem ek71:FnC Tryz.prog 105 ea71 er71:=run_fact (by kernel_rfl)
def ef71:Fact Tryz.prog:=⟨105,ea71,er71,fun σ=>ek71.call (by kernel_rfl) (by kernel_rfl)⟩
def ea72:List AV:=[.x (.d (.s 1 [i 12584321,i 12584450,i 2279171,i 2295684,i 2312197,i 6555526,i 8636167,i 2295688,i 4441865,i 14909450,i 0,i 4194304,i 4194304,i 2097152,i 0,i 0,i 0,i 0,i 0,i 0,i 0,i 0,i 0,i 0,i 0,i 0,i 0,i 0,i 0,i 0,i 0,i 0,i 0,i 0,i 0,i 0,i 0,i 0,i 0,i 0,i 0,i 0,i 0,i 0,i 0,i 0,i 0,i 0,i 0,i 0,i 0,i 0,i 0,i 0,i 0,i 0,i 0,i 0,i 0,i 0,i 0,i 0,i 0,i 0,i 0,i 0,i 0,i 0,i 0,i 0,i 0,i 0,i 0,i 0,i 0,i 0,i 0,i 0,i 0,i 0,i 0,i 0,i 0,i 0,i 0,i 0,i 0,i 0,i 0,i 0,i 0,i 0,i 0,i 0,i 0,i 0,i 0,i 0,i 0,i 0,i 0,i 0,i 0,i 0,i 0,i 0,i 0,i 0,i 0,i 0,i 0,i 0,i 0,i 0,i 0,i 0,i 0,i 0,i 0,i 0,i 0,i 0,i 0,i 0,i 0,i 0,i 0,i 0])),.x (.d (.s 1 [i 12584321,i 12584450,i 2279171,i 2295684,i 2312197,i 6555526,i 8636167,i 2295688,i 4441865,i 14909450,i 0,i 4194304,i 4194304,i 2097152,i 0,i 0,i 0,i 0,i 0,i 0,i 0,i 0,i 0,i 0,i 0,i 0,i 0,i 0,i 0,i 0,i 0,i 0,i 0,i 0,i 0,i 0,i 0,i 0,i 0,i 0,i 0,i 0,i 0,i 0,i 0,i 0,i 0,i 0,i 0,i 0,i 0,i 0,i 0,i 0,i 0,i 0,i 0,i 0,i 0,i 0,i 0,i 0,i 0,i 0,i 0,i 0,i 0,i 0,i 0,i 0,i 0,i 0,i 0,i 0,i 0,i 0,i 0,i 0,i 0,i 0,i 0,i 0,i 0,i 0,i 0,i 0,i 0,i 0,i 0,i 0,i 0,i 0,i 0,i 0,i 0,i 0,i 0,i 0,i 0,i 0,i 0,i 0,i 0,i 0,i 0,i 0,i 0,i 0,i 0,i 0,i 0,i 0,i 0,i 0,i 0,i 0,i 0,i 0,i 0,i 0,i 0,i 0,i 0,i 0,i 0,i 0,i 0,i 0]))]
def er72:AV:=.x (.d (.v (.bool true)))
theorem ek72:FnC Tryz.prog 206 ea72 er72:=evF0 (M:=[]) (by kernel_rfl) (by kernel_rfl)
def ef72:Fact Tryz.prog:=⟨206,ea72,er72,fun σ=>ek72.call (by kernel_rfl) (by kernel_rfl)⟩
def ea73:List AV:=[.a [.d (.s 1 [i 12584321,i 12584450,i 2279171,i 2295684,i 2312197,i 6555526,i 8636167,i 2295688,i 4441865,i 14909450,i 0,i 4194304,i 4194304,i 2097152,i 0,i 0,i 0,i 0,i 0,i 0,i 0,i 0,i 0,i 0,i 0,i 0,i 0,i 0,i 0,i 0,i 0,i 0,i 0,i 0,i 0,i 0,i 0,i 0,i 0,i 0,i 0,i 0,i 0,i 0,i 0,i 0,i 0,i 0,i 0,i 0,i 0,i 0,i 0,i 0,i 0,i 0,i 0,i 0,i 0,i 0,i 0,i 0,i 0,i 0,i 0,i 0,i 0,i 0,i 0,i 0,i 0,i 0,i 0,i 0,i 0,i 0,i 0,i 0,i 0,i 0,i 0,i 0,i 0,i 0,i 0,i 0,i 0,i 0,i 0,i 0,i 0,i 0,i 0,i 0,i 0,i 0,i 0,i 0,i 0,i 0,i 0,i 0,i 0,i 0,i 0,i 0,i 0,i 0,i 0,i 0,i 0,i 0,i 0,i 0,i 0,i 0,i 0,i 0,i 0,i 0,i 0,i 0,i 0,i 0,i 0,i 0,i 0,i 0]),.d (.s 1 [i 4194304,i 4194304]),I 2,.d (.s 1 []),I 34,I 2,I 2,I 0],.x (I 1)]
def er73:AV:=.t [.a [.d (.s 1 [i 12584321,i 12584450,i 2279171,i 2295684,i 2312197,i 6555526,i 8636167,i 2295688,i 4441865,i 14909450,i 0,i 4194304,i 4194304,i 2097152,i 4194304,i 0,i 0,i 0,i 0,i 0,i 0,i 0,i 0,i 0,i 0,i 0,i 0,i 0,i 0,i 0,i 0,i 0,i 0,i 0,i 0,i 0,i 0,i 0,i 0,i 0,i 0,i 0,i 0,i 0,i 0,i 0,i 0,i 0,i 0,i 0,i 0,i 0,i 0,i 0,i 0,i 0,i 0,i 0,i 0,i 0,i 0,i 0,i 0,i 0,i 0,i 0,i 0,i 0,i 0,i 0,i 0,i 0,i 0,i 0,i 0,i 0,i 0,i 0,i 0,i 0,i 0,i 0,i 0,i 0,i 0,i 0,i 0,i 0,i 0,i 0,i 0,i 0,i 0,i 0,i 0,i 0,i 0,i 0,i 0,i 0,i 0,i 0,i 0,i 0,i 0,i 0,i 0,i 0,i 0,i 0,i 0,i 0,i 0,i 0,i 0,i 0,i 0,i 0,i 0,i 0,i 0,i 0,i 0,i 0,i 0,i 0,i 0,i 0]),.d (.s 1 [i 4194304,i 4194304]),I 2,.d (.s 1 []),I 51,I 3,I 3,I 0],.x (I 0)]
theorem ek73:FnC Tryz.prog 105 ea73 er73:=run_fact (by kernel_rfl)
def ef73:Fact Tryz.prog:=⟨105,ea73,er73,fun σ=>ek73.call (by kernel_rfl) (by kernel_rfl)⟩
def ea74:List AV:=[.x (.d (.s 1 [i 12584321,i 12584450,i 2279171,i 2295684,i 2312197,i 6555526,i 8636167,i 2295688,i 4441865,i 14909450,i 0,i 4194304,i 4194304,i 2097152,i 4194304,i 0,i 0,i 0,i 0,i 0,i 0,i 0,i 0,i 0,i 0,i 0,i 0,i 0,i 0,i 0,i 0,i 0,i 0,i 0,i 0,i 0,i 0,i 0,i 0,i 0,i 0,i 0,i 0,i 0,i 0,i 0,i 0,i 0,i 0,i 0,i 0,i 0,i 0,i 0,i 0,i 0,i 0,i 0,i 0,i 0,i 0,i 0,i 0,i 0,i 0,i 0,i 0,i 0,i 0,i 0,i 0,i 0,i 0,i 0,i 0,i 0,i 0,i 0,i 0,i 0,i 0,i 0,i 0,i 0,i 0,i 0,i 0,i 0,i 0,i 0,i 0,i 0,i 0,i 0,i 0,i 0,i 0,i 0,i 0,i 0,i 0,i 0,i 0,i 0,i 0,i 0,i 0,i 0,i 0,i 0,i 0,i 0,i 0,i 0,i 0,i 0,i 0,i 0,i 0,i 0,i 0,i 0,i 0,i 0,i 0,i 0,i 0,i 0])),.x (.d (.s 1 [i 12584321,i 12584450,i 2279171,i 2295684,i 2312197,i 6555526,i 8636167,i 2295688,i 4441865,i 14909450,i 0,i 4194304,i 4194304,i 2097152,i 4194304,i 0,i 0,i 0,i 0,i 0,i 0,i 0,i 0,i 0,i 0,i 0,i 0,i 0,i 0,i 0,i 0,i 0,i 0,i 0,i 0,i 0,i 0,i 0,i 0,i 0,i 0,i 0,i 0,i 0,i 0,i 0,i 0,i 0,i 0,i 0,i 0,i 0,i 0,i 0,i 0,i 0,i 0,i 0,i 0,i 0,i 0,i 0,i 0,i 0,i 0,i 0,i 0,i 0,i 0,i 0,i 0,i 0,i 0,i 0,i 0,i 0,i 0,i 0,i 0,i 0,i 0,i 0,i 0,i 0,i 0,i 0,i 0,i 0,i 0,i 0,i 0,i 0,i 0,i 0,i 0,i 0,i 0,i 0,i 0,i 0,i 0,i 0,i 0,i 0,i 0,i 0,i 0,i 0,i 0,i 0,i 0,i 0,i 0,i 0,i 0,i 0,i 0,i 0,i 0,i 0,i 0,i 0,i 0,i 0,i 0,i 0,i 0,i 0]))]
def er74:AV:=.x (.d (.v (.bool true)))
theorem ek74:FnC Tryz.prog 206 ea74 er74:=evF0 (M:=[]) (by kernel_rfl) (by kernel_rfl)
def ef74:Fact Tryz.prog:=⟨206,ea74,er74,fun σ=>ek74.call (by kernel_rfl) (by kernel_rfl)⟩
def ea75:List AV:=[.a [.d (.s 1 [i 12584321,i 12584450,i 2279171,i 2295684,i 2312197,i 6555526,i 8636167,i 2295688,i 4441865,i 14909450,i 0,i 4194304,i 4194304,i 2097152,i 4194304,i 0,i 0,i 0,i 0,i 0,i 0,i 0,i 0,i 0,i 0,i 0,i 0,i 0,i 0,i 0,i 0,i 0,i 0,i 0,i 0,i 0,i 0,i 0,i 0,i 0,i 0,i 0,i 0,i 0,i 0,i 0,i 0,i 0,i 0,i 0,i 0,i 0,i 0,i 0,i 0,i 0,i 0,i 0,i 0,i 0,i 0,i 0,i 0,i 0,i 0,i 0,i 0,i 0,i 0,i 0,i 0,i 0,i 0,i 0,i 0,i 0,i 0,i 0,i 0,i 0,i 0,i 0,i 0,i 0,i 0,i 0,i 0,i 0,i 0,i 0,i 0,i 0,i 0,i 0,i 0,i 0,i 0,i 0,i 0,i 0,i 0,i 0,i 0,i 0,i 0,i 0,i 0,i 0,i 0,i 0,i 0,i 0,i 0,i 0,i 0,i 0,i 0,i 0,i 0,i 0,i 0,i 0,i 0,i 0,i 0,i 0,i 0,i 0]),.d (.s 1 [i 4194304,i 4194304]),I 2,.d (.s 1 []),I 51,I 3,I 3,I 0],.x (I 1)]
def er75:AV:=.t [.a [.d (.s 1 [i 12584321,i 12584450,i 2279171,i 2295684,i 2312197,i 6555526,i 8636167,i 2295688,i 4441865,i 14909450,i 0,i 4194304,i 4194304,i 2097152,i 4194304,i 4194304,i 0,i 0,i 0,i 0,i 0,i 0,i 0,i 0,i 0,i 0,i 0,i 0,i 0,i 0,i 0,i 0,i 0,i 0,i 0,i 0,i 0,i 0,i 0,i 0,i 0,i 0,i 0,i 0,i 0,i 0,i 0,i 0,i 0,i 0,i 0,i 0,i 0,i 0,i 0,i 0,i 0,i 0,i 0,i 0,i 0,i 0,i 0,i 0,i 0,i 0,i 0,i 0,i 0,i 0,i 0,i 0,i 0,i 0,i 0,i 0,i 0,i 0,i 0,i 0,i 0,i 0,i 0,i 0,i 0,i 0,i 0,i 0,i 0,i 0,i 0,i 0,i 0,i 0,i 0,i 0,i 0,i 0,i 0,i 0,i 0,i 0,i 0,i 0,i 0,i 0,i 0,i 0,i 0,i 0,i 0,i 0,i 0,i 0,i 0,i 0,i 0,i 0,i 0,i 0,i 0,i 0,i 0,i 0,i 0,i 0,i 0,i 0]),.d (.s 1 [i 4194304,i 4194304]),I 2,.d (.s 1 []),I 68,I 4,I 4,I 0],.x (I 0)]
theorem ek75:FnC Tryz.prog 105 ea75 er75:=run_fact (by kernel_rfl)
def ef75:Fact Tryz.prog:=⟨105,ea75,er75,fun σ=>ek75.call (by kernel_rfl) (by kernel_rfl)⟩
def ea76:List AV:=[.x (.d (.s 1 [i 12584321,i 12584450,i 2279171,i 2295684,i 2312197,i 6555526,i 8636167,i 2295688,i 4441865,i 14909450,i 0,i 4194304,i 4194304,i 2097152,i 4194304,i 4194304,i 0,i 0,i 0,i 0,i 0,i 0,i 0,i 0,i 0,i 0,i 0,i 0,i 0,i 0,i 0,i 0,i 0,i 0,i 0,i 0,i 0,i 0,i 0,i 0,i 0,i 0,i 0,i 0,i 0,i 0,i 0,i 0,i 0,i 0,i 0,i 0,i 0,i 0,i 0,i 0,i 0,i 0,i 0,i 0,i 0,i 0,i 0,i 0,i 0,i 0,i 0,i 0,i 0,i 0,i 0,i 0,i 0,i 0,i 0,i 0,i 0,i 0,i 0,i 0,i 0,i 0,i 0,i 0,i 0,i 0,i 0,i 0,i 0,i 0,i 0,i 0,i 0,i 0,i 0,i 0,i 0,i 0,i 0,i 0,i 0,i 0,i 0,i 0,i 0,i 0,i 0,i 0,i 0,i 0,i 0,i 0,i 0,i 0,i 0,i 0,i 0,i 0,i 0,i 0,i 0,i 0,i 0,i 0,i 0,i 0,i 0,i 0])),.x (.d (.s 1 [i 12584321,i 12584450,i 2279171,i 2295684,i 2312197,i 6555526,i 8636167,i 2295688,i 4441865,i 14909450,i 0,i 4194304,i 4194304,i 2097152,i 4194304,i 4194304,i 0,i 0,i 0,i 0,i 0,i 0,i 0,i 0,i 0,i 0,i 0,i 0,i 0,i 0,i 0,i 0,i 0,i 0,i 0,i 0,i 0,i 0,i 0,i 0,i 0,i 0,i 0,i 0,i 0,i 0,i 0,i 0,i 0,i 0,i 0,i 0,i 0,i 0,i 0,i 0,i 0,i 0,i 0,i 0,i 0,i 0,i 0,i 0,i 0,i 0,i 0,i 0,i 0,i 0,i 0,i 0,i 0,i 0,i 0,i 0,i 0,i 0,i 0,i 0,i 0,i 0,i 0,i 0,i 0,i 0,i 0,i 0,i 0,i 0,i 0,i 0,i 0,i 0,i 0,i 0,i 0,i 0,i 0,i 0,i 0,i 0,i 0,i 0,i 0,i 0,i 0,i 0,i 0,i 0,i 0,i 0,i 0,i 0,i 0,i 0,i 0,i 0,i 0,i 0,i 0,i 0,i 0,i 0,i 0,i 0,i 0,i 0]))]
def er76:AV:=.x (.d (.v (.bool true)))
theorem ek76:FnC Tryz.prog 206 ea76 er76:=evF0 (M:=[]) (by kernel_rfl) (by kernel_rfl)
def ef76:Fact Tryz.prog:=⟨206,ea76,er76,fun σ=>ek76.call (by kernel_rfl) (by kernel_rfl)⟩
def ea77:List AV:=[.a [.d (.s 1 [i 12584321,i 12584450,i 2279171,i 2295684,i 2312197,i 6555526,i 8636167,i 2295688,i 4441865,i 14909450,i 0,i 4194304,i 4194304,i 2097152,i 4194304,i 4194304,i 0,i 0,i 0,i 0,i 0,i 0,i 0,i 0,i 0,i 0,i 0,i 0,i 0,i 0,i 0,i 0,i 0,i 0,i 0,i 0,i 0,i 0,i 0,i 0,i 0,i 0,i 0,i 0,i 0,i 0,i 0,i 0,i 0,i 0,i 0,i 0,i 0,i 0,i 0,i 0,i 0,i 0,i 0,i 0,i 0,i 0,i 0,i 0,i 0,i 0,i 0,i 0,i 0,i 0,i 0,i 0,i 0,i 0,i 0,i 0,i 0,i 0,i 0,i 0,i 0,i 0,i 0,i 0,i 0,i 0,i 0,i 0,i 0,i 0,i 0,i 0,i 0,i 0,i 0,i 0,i 0,i 0,i 0,i 0,i 0,i 0,i 0,i 0,i 0,i 0,i 0,i 0,i 0,i 0,i 0,i 0,i 0,i 0,i 0,i 0,i 0,i 0,i 0,i 0,i 0,i 0,i 0,i 0,i 0,i 0,i 0,i 0]),.d (.s 1 [i 4194304,i 4194304]),I 2,.d (.s 1 []),I 68,I 4,I 4,I 0],.x (I 1)]
def er77:AV:=.t [.a [.d (.s 1 [i 12584321,i 12584450,i 2279171,i 2295684,i 2312197,i 6555526,i 8636167,i 2295688,i 4441865,i 14909450,i 0,i 4194304,i 4194304,i 2097152,i 4194304,i 4194304,i 2097152,i 0,i 0,i 0,i 0,i 0,i 0,i 0,i 0,i 0,i 0,i 0,i 0,i 0,i 0,i 0,i 0,i 0,i 0,i 0,i 0,i 0,i 0,i 0,i 0,i 0,i 0,i 0,i 0,i 0,i 0,i 0,i 0,i 0,i 0,i 0,i 0,i 0,i 0,i 0,i 0,i 0,i 0,i 0,i 0,i 0,i 0,i 0,i 0,i 0,i 0,i 0,i 0,i 0,i 0,i 0,i 0,i 0,i 0,i 0,i 0,i 0,i 0,i 0,i 0,i 0,i 0,i 0,i 0,i 0,i 0,i 0,i 0,i 0,i 0,i 0,i 0,i 0,i 0,i 0,i 0,i 0,i 0,i 0,i 0,i 0,i 0,i 0,i 0,i 0,i 0,i 0,i 0,i 0,i 0,i 0,i 0,i 0,i 0,i 0,i 0,i 0,i 0,i 0,i 0,i 0,i 0,i 0,i 0,i 0,i 0,i 0]),.d (.s 1 [i 4194304,i 4194304]),I 2,.d (.s 1 []),I 85,I 5,I 5,I 0],.x (I 0)]
theorem ek77:FnC Tryz.prog 105 ea77 er77:=run_fact (by kernel_rfl)
def ef77:Fact Tryz.prog:=⟨105,ea77,er77,fun σ=>ek77.call (by kernel_rfl) (by kernel_rfl)⟩
end Go.Proofs.YtidkoikjdghlmaaGreatDoor
namespace Go.Proofs.YtidkoikjdghlmaaGreatDoor
open Go Go.QL FoT
set_option maxRecDepth 1000000
def ea78:List AV:=[.x (.d (.s 1 [i 12584321,i 12584450,i 2279171,i 2295684,i 2312197,i 6555526,i 8636167,i 2295688,i 4441865,i 14909450,i 0,i 4194304,i 4194304,i 2097152,i 4194304,i 4194304,i 2097152,i 0,i 0,i 0,i 0,i 0,i 0,i 0,i 0,i 0,i 0,i 0,i 0,i 0,i 0,i 0,i 0,i 0,i 0,i 0,i 0,i 0,i 0,i 0,i 0,i 0,i 0,i 0,i 0,i 0,i 0,i 0,i 0,i 0,i 0,i 0,i 0,i 0,i 0,i 0,i 0,i 0,i 0,i 0,i 0,i 0,i 0,i 0,i 0,i 0,i 0,i 0,i 0,i 0,i 0,i 0,i 0,i 0,i 0,i 0,i 0,i 0,i 0,i 0,i 0,i 0,i 0,i 0,i 0,i 0,i 0,i 0,i 0,i 0,i 0,i 0,i 0,i 0,i 0,i 0,i 0,i 0,i 0,i 0,i 0,i 0,i 0,i 0,i 0,i 0,i 0,i 0,i 0,i 0,i 0,i 0,i 0,i 0,i 0,i 0,i 0,i 0,i 0,i 0,i 0,i 0,i 0,i 0,i 0,i 0,i 0,i 0])),.x (.d (.s 1 [i 12584321,i 12584450,i 2279171,i 2295684,i 2312197,i 6555526,i 8636167,i 2295688,i 4441865,i 14909450,i 0,i 4194304,i 4194304,i 2097152,i 4194304,i 4194304,i 2097152,i 0,i 0,i 0,i 0,i 0,i 0,i 0,i 0,i 0,i 0,i 0,i 0,i 0,i 0,i 0,i 0,i 0,i 0,i 0,i 0,i 0,i 0,i 0,i 0,i 0,i 0,i 0,i 0,i 0,i 0,i 0,i 0,i 0,i 0,i 0,i 0,i 0,i 0,i 0,i 0,i 0,i 0,i 0,i 0,i 0,i 0,i 0,i 0,i 0,i 0,i 0,i 0,i 0,i 0,i 0,i 0,i 0,i 0,i 0,i 0,i 0,i 0,i 0,i 0,i 0,i 0,i 0,i 0,i 0,i 0,i 0,i 0,i 0,i 0,i 0,i 0,i 0,i 0,i 0,i 0,i 0,i 0,i 0,i 0,i 0,i 0,i 0,i 0,i 0,i 0,i 0,i 0,i 0,i 0,i 0,i 0,i 0,i 0,i 0,i 0,i 0,i 0,i 0,i 0,i 0,i 0,i 0,i 0,i 0,i 0,i 0]))]
def er78:AV:=.x (.d (.v (.bool true)))
theorem ek78:FnC Tryz.prog 206 ea78 er78:=evF0 (M:=[]) (by kernel_rfl) (by kernel_rfl)
def ef78:Fact Tryz.prog:=⟨206,ea78,er78,fun σ=>ek78.call (by kernel_rfl) (by kernel_rfl)⟩
def ea79:List AV:=[.a [.d (.s 1 [i 12584321,i 12584450,i 2279171,i 2295684,i 2312197,i 6555526,i 8636167,i 2295688,i 4441865,i 14909450,i 0,i 4194304,i 4194304,i 2097152,i 4194304,i 4194304,i 2097152,i 0,i 0,i 0,i 0,i 0,i 0,i 0,i 0,i 0,i 0,i 0,i 0,i 0,i 0,i 0,i 0,i 0,i 0,i 0,i 0,i 0,i 0,i 0,i 0,i 0,i 0,i 0,i 0,i 0,i 0,i 0,i 0,i 0,i 0,i 0,i 0,i 0,i 0,i 0,i 0,i 0,i 0,i 0,i 0,i 0,i 0,i 0,i 0,i 0,i 0,i 0,i 0,i 0,i 0,i 0,i 0,i 0,i 0,i 0,i 0,i 0,i 0,i 0,i 0,i 0,i 0,i 0,i 0,i 0,i 0,i 0,i 0,i 0,i 0,i 0,i 0,i 0,i 0,i 0,i 0,i 0,i 0,i 0,i 0,i 0,i 0,i 0,i 0,i 0,i 0,i 0,i 0,i 0,i 0,i 0,i 0,i 0,i 0,i 0,i 0,i 0,i 0,i 0,i 0,i 0,i 0,i 0,i 0,i 0,i 0,i 0]),.d (.s 1 [i 4194304,i 4194304]),I 2,.d (.s 1 []),I 85,I 5,I 5,I 0],.x (I 1)]
def er79:AV:=.t [.a [.d (.s 1 [i 12584321,i 12584450,i 2279171,i 2295684,i 2312197,i 6555526,i 8636167,i 2295688,i 4441865,i 14909450,i 0,i 4194304,i 4194304,i 2097152,i 4194304,i 2097152,i 2097152,i 0,i 0,i 0,i 0,i 0,i 0,i 0,i 0,i 0,i 0,i 0,i 0,i 0,i 0,i 0,i 0,i 0,i 0,i 0,i 0,i 0,i 0,i 0,i 0,i 0,i 0,i 0,i 0,i 0,i 0,i 0,i 0,i 0,i 0,i 0,i 0,i 0,i 0,i 0,i 0,i 0,i 0,i 0,i 0,i 0,i 0,i 0,i 0,i 0,i 0,i 0,i 0,i 0,i 0,i 0,i 0,i 0,i 0,i 0,i 0,i 0,i 0,i 0,i 0,i 0,i 0,i 0,i 0,i 0,i 0,i 0,i 0,i 0,i 0,i 0,i 0,i 0,i 0,i 0,i 0,i 0,i 0,i 0,i 0,i 0,i 0,i 0,i 0,i 0,i 0,i 0,i 0,i 0,i 0,i 0,i 0,i 0,i 0,i 0,i 0,i 0,i 0,i 0,i 0,i 0,i 0,i 0,i 0,i 0,i 0,i 0]),.d (.s 1 [i 4194304,i 4194304]),I 2,.d (.s 1 []),I 118,I 6,I 6,I 0],.x (I 0)]
theorem ek79:FnC Tryz.prog 105 ea79 er79:=run_fact (by kernel_rfl)
def ef79:Fact Tryz.prog:=⟨105,ea79,er79,fun σ=>ek79.call (by kernel_rfl) (by kernel_rfl)⟩
def ea80:List AV:=[.x (.d (.s 1 [i 12584321,i 12584450,i 2279171,i 2295684,i 2312197,i 6555526,i 8636167,i 2295688,i 4441865,i 14909450,i 0,i 4194304,i 4194304,i 2097152,i 4194304,i 2097152,i 2097152,i 0,i 0,i 0,i 0,i 0,i 0,i 0,i 0,i 0,i 0,i 0,i 0,i 0,i 0,i 0,i 0,i 0,i 0,i 0,i 0,i 0,i 0,i 0,i 0,i 0,i 0,i 0,i 0,i 0,i 0,i 0,i 0,i 0,i 0,i 0,i 0,i 0,i 0,i 0,i 0,i 0,i 0,i 0,i 0,i 0,i 0,i 0,i 0,i 0,i 0,i 0,i 0,i 0,i 0,i 0,i 0,i 0,i 0,i 0,i 0,i 0,i 0,i 0,i 0,i 0,i 0,i 0,i 0,i 0,i 0,i 0,i 0,i 0,i 0,i 0,i 0,i 0,i 0,i 0,i 0,i 0,i 0,i 0,i 0,i 0,i 0,i 0,i 0,i 0,i 0,i 0,i 0,i 0,i 0,i 0,i 0,i 0,i 0,i 0,i 0,i 0,i 0,i 0,i 0,i 0,i 0,i 0,i 0,i 0,i 0,i 0])),.x (.d (.s 1 [i 12584321,i 12584450,i 2279171,i 2295684,i 2312197,i 6555526,i 8636167,i 2295688,i 4441865,i 14909450,i 0,i 4194304,i 4194304,i 2097152,i 4194304,i 2097152,i 2097152,i 0,i 0,i 0,i 0,i 0,i 0,i 0,i 0,i 0,i 0,i 0,i 0,i 0,i 0,i 0,i 0,i 0,i 0,i 0,i 0,i 0,i 0,i 0,i 0,i 0,i 0,i 0,i 0,i 0,i 0,i 0,i 0,i 0,i 0,i 0,i 0,i 0,i 0,i 0,i 0,i 0,i 0,i 0,i 0,i 0,i 0,i 0,i 0,i 0,i 0,i 0,i 0,i 0,i 0,i 0,i 0,i 0,i 0,i 0,i 0,i 0,i 0,i 0,i 0,i 0,i 0,i 0,i 0,i 0,i 0,i 0,i 0,i 0,i 0,i 0,i 0,i 0,i 0,i 0,i 0,i 0,i 0,i 0,i 0,i 0,i 0,i 0,i 0,i 0,i 0,i 0,i 0,i 0,i 0,i 0,i 0,i 0,i 0,i 0,i 0,i 0,i 0,i 0,i 0,i 0,i 0,i 0,i 0,i 0,i 0,i 0]))]
def er80:AV:=.x (.d (.v (.bool true)))
theorem ek80:FnC Tryz.prog 206 ea80 er80:=evF0 (M:=[]) (by kernel_rfl) (by kernel_rfl)
def ef80:Fact Tryz.prog:=⟨206,ea80,er80,fun σ=>ek80.call (by kernel_rfl) (by kernel_rfl)⟩
def ea81:List AV:=[.a [.d (.s 1 [i 12584321,i 12584450,i 2279171,i 2295684,i 2312197,i 6555526,i 8636167,i 2295688,i 4441865,i 14909450,i 0,i 4194304,i 4194304,i 2097152,i 4194304,i 2097152,i 2097152,i 0,i 0,i 0,i 0,i 0,i 0,i 0,i 0,i 0,i 0,i 0,i 0,i 0,i 0,i 0,i 0,i 0,i 0,i 0,i 0,i 0,i 0,i 0,i 0,i 0,i 0,i 0,i 0,i 0,i 0,i 0,i 0,i 0,i 0,i 0,i 0,i 0,i 0,i 0,i 0,i 0,i 0,i 0,i 0,i 0,i 0,i 0,i 0,i 0,i 0,i 0,i 0,i 0,i 0,i 0,i 0,i 0,i 0,i 0,i 0,i 0,i 0,i 0,i 0,i 0,i 0,i 0,i 0,i 0,i 0,i 0,i 0,i 0,i 0,i 0,i 0,i 0,i 0,i 0,i 0,i 0,i 0,i 0,i 0,i 0,i 0,i 0,i 0,i 0,i 0,i 0,i 0,i 0,i 0,i 0,i 0,i 0,i 0,i 0,i 0,i 0,i 0,i 0,i 0,i 0,i 0,i 0,i 0,i 0,i 0,i 0]),.d (.s 1 [i 4194304,i 4194304]),I 2,.d (.s 1 []),I 118,I 6,I 6,I 0],.x (I 1)]
def er81:AV:=.t [.a [.d (.s 1 [i 12584321,i 12584450,i 2279171,i 2295684,i 2312197,i 6555526,i 8636167,i 2295688,i 4441865,i 14909450,i 0,i 4194304,i 4194304,i 2097152,i 1048576,i 2097152,i 2097152,i 0,i 0,i 0,i 0,i 0,i 0,i 0,i 0,i 0,i 0,i 0,i 0,i 0,i 0,i 0,i 0,i 0,i 0,i 0,i 0,i 0,i 0,i 0,i 0,i 0,i 0,i 0,i 0,i 0,i 0,i 0,i 0,i 0,i 0,i 0,i 0,i 0,i 0,i 0,i 0,i 0,i 0,i 0,i 0,i 0,i 0,i 0,i 0,i 0,i 0,i 0,i 0,i 0,i 0,i 0,i 0,i 0,i 0,i 0,i 0,i 0,i 0,i 0,i 0,i 0,i 0,i 0,i 0,i 0,i 0,i 0,i 0,i 0,i 0,i 0,i 0,i 0,i 0,i 0,i 0,i 0,i 0,i 0,i 0,i 0,i 0,i 0,i 0,i 0,i 0,i 0,i 0,i 0,i 0,i 0,i 0,i 0,i 0,i 0,i 0,i 0,i 0,i 0,i 0,i 0,i 0,i 0,i 0,i 0,i 0,i 0]),.d (.s 1 [i 4194304,i 4194304]),I 2,.d (.s 1 []),I 167,I 7,I 7,I 0],.x (I 0)]
theorem ek81:FnC Tryz.prog 105 ea81 er81:=run_fact (by kernel_rfl)
def ef81:Fact Tryz.prog:=⟨105,ea81,er81,fun σ=>ek81.call (by kernel_rfl) (by kernel_rfl)⟩
def ea82:List AV:=[.a [.d (.s 1 [i 12584321,i 12584450,i 2279171,i 2295684,i 2312197,i 6555526,i 8636167,i 2295688,i 4441865,i 14909450,i 0,i 4194304,i 4194304,i 2097152,i 4194312,i 2097152,i 2097152,i 0,i 0,i 0,i 0,i 0,i 0,i 0,i 0,i 0,i 0,i 0,i 0,i 0,i 0,i 0,i 0,i 0,i 0,i 0,i 0,i 0,i 0,i 0,i 0,i 0,i 0,i 0,i 0,i 0,i 0,i 0,i 0,i 0,i 0,i 0,i 0,i 0,i 0,i 0,i 0,i 0,i 0,i 0,i 0,i 0,i 0,i 0,i 0,i 0,i 0,i 0,i 0,i 0,i 0,i 0,i 0,i 0,i 0,i 0,i 0,i 0,i 0,i 0,i 0,i 0,i 0,i 0,i 0,i 0,i 0,i 0,i 0,i 0,i 0,i 0,i 0,i 0,i 0,i 0,i 0,i 0,i 0,i 0,i 0,i 0,i 0,i 0,i 0,i 0,i 0,i 0,i 0,i 0,i 0,i 0,i 0,i 0,i 0,i 0,i 0,i 0,i 0,i 0,i 0,i 0,i 0,i 0,i 0,i 0,i 0,i 0]),.d (.s 1 [i 4194304,i 4194304]),I 2,.d (.s 1 []),I 118,I 6,I 6,I 0],.x (I 1)]
def er82:AV:=.t [.a [.d (.s 1 [i 12584321,i 12584450,i 2279171,i 2295684,i 2312197,i 6555526,i 8636167,i 2295688,i 4441865,i 14909450,i 0,i 4194304,i 4194304,i 2097152,i 1048578,i 2097152,i 2097152,i 0,i 0,i 0,i 0,i 0,i 0,i 0,i 0,i 0,i 0,i 0,i 0,i 0,i 0,i 0,i 0,i 0,i 0,i 0,i 0,i 0,i 0,i 0,i 0,i 0,i 0,i 0,i 0,i 0,i 0,i 0,i 0,i 0,i 0,i 0,i 0,i 0,i 0,i 0,i 0,i 0,i 0,i 0,i 0,i 0,i 0,i 0,i 0,i 0,i 0,i 0,i 0,i 0,i 0,i 0,i 0,i 0,i 0,i 0,i 0,i 0,i 0,i 0,i 0,i 0,i 0,i 0,i 0,i 0,i 0,i 0,i 0,i 0,i 0,i 0,i 0,i 0,i 0,i 0,i 0,i 0,i 0,i 0,i 0,i 0,i 0,i 0,i 0,i 0,i 0,i 0,i 0,i 0,i 0,i 0,i 0,i 0,i 0,i 0,i 0,i 0,i 0,i 0,i 0,i 0,i 0,i 0,i 0,i 0,i 0,i 0]),.d (.s 1 [i 4194304,i 4194304]),I 2,.d (.s 1 []),I 167,I 7,I 7,I 0],.x (I 0)]
theorem ek82:FnC Tryz.prog 105 ea82 er82:=run_fact (by kernel_rfl)
def ef82:Fact Tryz.prog:=⟨105,ea82,er82,fun σ=>ek82.call (by kernel_rfl) (by kernel_rfl)⟩
def ea83:List AV:=[.a [.d (.s 1 [i 12584321,i 12584450,i 2279171,i 2295684,i 2312197,i 6555526,i 8636167,i 2295688,i 4441865,i 14909450,i 0,i 0,i 0,i 2097152,i 0,i 0,i 0,i 0,i 0,i 0,i 0,i 0,i 0,i 0,i 0,i 0,i 0,i 0,i 0,i 0,i 0,i 0,i 0,i 0,i 0,i 0,i 0,i 0,i 0,i 0,i 0,i 0,i 0,i 0,i 0,i 0,i 0,i 0,i 0,i 0,i 0,i 0,i 0,i 0,i 0,i 0,i 0,i 0,i 0,i 0,i 0,i 0,i 0,i 0,i 0,i 0,i 0,i 0,i 0,i 0,i 0,i 0,i 0,i 0,i 0,i 0,i 0,i 0,i 0,i 0,i 0,i 0,i 0,i 0,i 0,i 0,i 0,i 0,i 0,i 0,i 0,i 0,i 0,i 0,i 0,i 0,i 0,i 0,i 0,i 0,i 0,i 0,i 0,i 0,i 0,i 0,i 0,i 0,i 0,i 0,i 0,i 0,i 0,i 0,i 0,i 0,i 0,i 0,i 0,i 0,i 0,i 0,i 0,i 0,i 0,i 0,i 0,i 0]),.d (.s 1 [i 4194304,i 4194304]),I 0,.d (.v (.slice none 0 0)),I 0,I 0,I 0,I 0],.x (.d (.s 3 [[.v (.int .i64 (6)),.v (.int .i64 (14)),.v (.int .i64 (8))]])),.x (I 1000)]
def er83:AV:=.t [.x (I 6),.a [I 6,I 4,I 15,I 14,I 7,I 118,I 167],.x (I 0)]
theorem ek83:FnC Tryz.prog 101 ea83 er83:=evF0 (M:=[ef68,ef69,ef70,ef71,ef72,ef73,ef74,ef75,ef76,ef77,ef78,ef79,ef80,ef81,ef82]) (by kernel_rfl) (by kernel_rfl)
def ef83:Fact Tryz.prog:=⟨101,ea83,er83,fun σ=>ek83.call (by kernel_rfl) (by kernel_rfl)⟩
def ea84:List AV:=[.x (.d (.s 1 [[.v (.string ⟨#[54]⟩)],[.v (.string ⟨#[54]⟩)]])),.x (.d (.v (.string ⟨#[32]⟩)))]
def er84:AV:=.x (.d (.v (.string ⟨#[54,32,54]⟩)))
theorem ek84:FnC Tryz.prog 79 ea84 er84:=join_fact (by kernel_rfl)
def ef84:Fact Tryz.prog:=⟨79,ea84,er84,fun σ=>ek84.call (by kernel_rfl) (by kernel_rfl)⟩
def ea85:List AV:=[.x (.d (.v (.string ⟨#[98,105,108,108,32,97,110,110]⟩))),.x (.d (.v (.string ⟨#[32]⟩)))]
def er85:AV:=.x (.d (.s 1 [[.v (.string ⟨#[98,105,108,108]⟩)],[.v (.string ⟨#[97,110,110]⟩)]]))
theorem ek85:FnC Tryz.prog 58 ea85 er85:=split_fact (by kernel_rfl)
def ef85:Fact Tryz.prog:=⟨58,ea85,er85,fun σ=>ek85.call (by kernel_rfl) (by kernel_rfl)⟩
def ea86:List AV:=[.x (I 15)]
def er86:AV:=.x (.d (.v (.string ⟨#[49,53]⟩)))
theorem ek86:FnC Tryz.prog 78 ea86 er86:=itoa_fact (by kernel_rfl)
def ef86:Fact Tryz.prog:=⟨78,ea86,er86,fun σ=>ek86.call (by kernel_rfl) (by kernel_rfl)⟩
def ea87:List AV:=[.x (.d (.s 1 [[.v (.string ⟨#[49,53]⟩)]])),.x (.d (.v (.string ⟨#[32]⟩)))]
def er87:AV:=.x (.d (.v (.string ⟨#[49,53]⟩)))
theorem ek87:FnC Tryz.prog 79 ea87 er87:=join_fact (by kernel_rfl)
def ef87:Fact Tryz.prog:=⟨79,ea87,er87,fun σ=>ek87.call (by kernel_rfl) (by kernel_rfl)⟩
def ea88:List AV:=[.x (.d (.v (.string ⟨#[102,97,117,108,116,32,49,48]⟩))),.x (.d (.v (.string ⟨#[32]⟩)))]
def er88:AV:=.x (.d (.s 1 [[.v (.string ⟨#[102,97,117,108,116]⟩)],[.v (.string ⟨#[49,48]⟩)]]))
theorem ek88:FnC Tryz.prog 58 ea88 er88:=split_fact (by kernel_rfl)
def ef88:Fact Tryz.prog:=⟨58,ea88,er88,fun σ=>ek88.call (by kernel_rfl) (by kernel_rfl)⟩
def ea89:List AV:=[.x (.d (.v (.string ⟨#[49,48]⟩)))]
def er89:AV:=.t [.x (I 10),.x (.d (.v (.nilIface)))]
def ef89:Fact Tryz.prog:=⟨138,ea89,er89,atoi_fact (by kernel_rfl)⟩
def ea90:List AV:=[.x (I 10)]
def er90:AV:=.x (.d (.v (.string ⟨#[49,48]⟩)))
theorem ek90:FnC Tryz.prog 78 ea90 er90:=itoa_fact (by kernel_rfl)
def ef90:Fact Tryz.prog:=⟨78,ea90,er90,fun σ=>ek90.call (by kernel_rfl) (by kernel_rfl)⟩
def ea91:List AV:=[.x (.d (.v (.string ⟨#[114,117,110,32,51,48]⟩))),.x (.d (.v (.string ⟨#[32]⟩)))]
def er91:AV:=.x (.d (.s 1 [[.v (.string ⟨#[114,117,110]⟩)],[.v (.string ⟨#[51,48]⟩)]]))
theorem ek91:FnC Tryz.prog 58 ea91 er91:=split_fact (by kernel_rfl)
def ef91:Fact Tryz.prog:=⟨58,ea91,er91,fun σ=>ek91.call (by kernel_rfl) (by kernel_rfl)⟩
def ea92:List AV:=[.x (.d (.v (.string ⟨#[51,48]⟩)))]
def er92:AV:=.t [.x (I 30),.x (.d (.v (.nilIface)))]
def ef92:Fact Tryz.prog:=⟨138,ea92,er92,atoi_fact (by kernel_rfl)⟩
def ea93:List AV:=[.x (I 30)]
def er93:AV:=.x (.d (.v (.string ⟨#[51,48]⟩)))
theorem ek93:FnC Tryz.prog 78 ea93 er93:=itoa_fact (by kernel_rfl)
def ef93:Fact Tryz.prog:=⟨78,ea93,er93,fun σ=>ek93.call (by kernel_rfl) (by kernel_rfl)⟩
def ea94:List AV:=[.x (I 38)]
def er94:AV:=.x (.d (.v (.string ⟨#[51,56]⟩)))
theorem ek94:FnC Tryz.prog 78 ea94 er94:=itoa_fact (by kernel_rfl)
def ef94:Fact Tryz.prog:=⟨78,ea94,er94,fun σ=>ek94.call (by kernel_rfl) (by kernel_rfl)⟩
def ea95:List AV:=[.x (.d (.s 1 [[.v (.string ⟨#[97,116]⟩)],[.v (.string ⟨#[51,56]⟩)],[.v (.string ⟨#[114]⟩)],[.v (.string ⟨#[45]⟩)]])),.x (.d (.v (.string ⟨#[32]⟩)))]
def er95:AV:=.x (.d (.v (.string ⟨#[97,116,32,51,56,32,114,32,45]⟩)))
theorem ek95:FnC Tryz.prog 79 ea95 er95:=join_fact (by kernel_rfl)
def ef95:Fact Tryz.prog:=⟨79,ea95,er95,fun σ=>ek95.call (by kernel_rfl) (by kernel_rfl)⟩
def ea96:List AV:=[.x (.d (.v (.string ⟨#[109,97,114,103,105,110,32,48]⟩))),.x (.d (.v (.string ⟨#[32]⟩)))]
def er96:AV:=.x (.d (.s 1 [[.v (.string ⟨#[109,97,114,103,105,110]⟩)],[.v (.string ⟨#[48]⟩)]]))
theorem ek96:FnC Tryz.prog 58 ea96 er96:=split_fact (by kernel_rfl)
def ef96:Fact Tryz.prog:=⟨58,ea96,er96,fun σ=>ek96.call (by kernel_rfl) (by kernel_rfl)⟩
def ea97:List AV:=[.x (.d (.v (.string ⟨#[48]⟩)))]
def er97:AV:=.t [.x (I 0),.x (.d (.v (.nilIface)))]
def ef97:Fact Tryz.prog:=⟨138,ea97,er97,atoi_fact (by kernel_rfl)⟩
def ea98:List AV:=[.x (I 0)]
def er98:AV:=.x (.d (.v (.string ⟨#[48]⟩)))
theorem ek98:FnC Tryz.prog 78 ea98 er98:=itoa_fact (by kernel_rfl)
def ef98:Fact Tryz.prog:=⟨78,ea98,er98,fun σ=>ek98.call (by kernel_rfl) (by kernel_rfl)⟩
def ea99:List AV:=[.a [I 1000,I 1,I 3,.d (.s 2 [[.v (.int .i64 (1000)),.v (.int .i64 (300))],[.v (.int .i64 (900)),.v (.int .i64 (500))],[.v (.int .i64 (800)),.v (.int .i64 (700))]])],.x (.d (.v (.slice none 0 0))),.x (I 0)]
def er99:AV:=.t [.a [I 234,I 701],.x (I 0)]
theorem ek99:FnC Tryz.prog 71 ea99 er99:=evF0 (M:=[ef0]) (by kernel_rfl) (by kernel_rfl)
def ef99:Fact Tryz.prog:=⟨71,ea99,er99,fun σ=>ek99.call (by kernel_rfl) (by kernel_rfl)⟩
def ea100:List AV:=[.x (I 1000)]
def er100:AV:=.x (.d (.v (.string ⟨#[49,48,48,48]⟩)))
theorem ek100:FnC Tryz.prog 78 ea100 er100:=itoa_fact (by kernel_rfl)
def ef100:Fact Tryz.prog:=⟨78,ea100,er100,fun σ=>ek100.call (by kernel_rfl) (by kernel_rfl)⟩
def ea101:List AV:=[.x (I 234)]
def er101:AV:=.x (.d (.v (.string ⟨#[50,51,52]⟩)))
theorem ek101:FnC Tryz.prog 78 ea101 er101:=itoa_fact (by kernel_rfl)
def ef101:Fact Tryz.prog:=⟨78,ea101,er101,fun σ=>ek101.call (by kernel_rfl) (by kernel_rfl)⟩
def ea102:List AV:=[.x (I 701)]
def er102:AV:=.x (.d (.v (.string ⟨#[55,48,49]⟩)))
theorem ek102:FnC Tryz.prog 78 ea102 er102:=itoa_fact (by kernel_rfl)
def ef102:Fact Tryz.prog:=⟨78,ea102,er102,fun σ=>ek102.call (by kernel_rfl) (by kernel_rfl)⟩
def ea103:List AV:=[.x (.d (.s 1 [[.v (.string ⟨#[49,48,48,48]⟩)],[.v (.string ⟨#[49,48,48,48]⟩)],[.v (.string ⟨#[50,51,52]⟩)],[.v (.string ⟨#[55,48,49]⟩)]])),.x (.d (.v (.string ⟨#[32]⟩)))]
def er103:AV:=.x (.d (.v (.string ⟨#[49,48,48,48,32,49,48,48,48,32,50,51,52,32,55,48,49]⟩)))
theorem ek103:FnC Tryz.prog 79 ea103 er103:=join_fact (by kernel_rfl)
def ef103:Fact Tryz.prog:=⟨79,ea103,er103,fun σ=>ek103.call (by kernel_rfl) (by kernel_rfl)⟩
def ea104:List AV:=[.x (.d (.v (.string ⟨#[104,101,108,108,111]⟩))),.x (.d (.v (.string ⟨#[32]⟩)))]
def er104:AV:=.x (.d (.s 1 [[.v (.string ⟨#[104,101,108,108,111]⟩)]]))
theorem ek104:FnC Tryz.prog 58 ea104 er104:=split_fact (by kernel_rfl)
def ef104:Fact Tryz.prog:=⟨58,ea104,er104,fun σ=>ek104.call (by kernel_rfl) (by kernel_rfl)⟩
def ea105:List AV:=[.x (.d (.s 1 [[.v (.string ⟨#[101,114,114,111,114]⟩)],[.v (.string ⟨#[54]⟩)]])),.x (.d (.v (.string ⟨#[32]⟩)))]
def er105:AV:=.x (.d (.v (.string ⟨#[101,114,114,111,114,32,54]⟩)))
theorem ek105:FnC Tryz.prog 79 ea105 er105:=join_fact (by kernel_rfl)
def ef105:Fact Tryz.prog:=⟨79,ea105,er105,fun σ=>ek105.call (by kernel_rfl) (by kernel_rfl)⟩
end Go.Proofs.YtidkoikjdghlmaaGreatDoor
namespace Go.Proofs.YtidkoikjdghlmaaGreatDoor
open Go Go.QL FoT
set_option maxRecDepth 1000000
def ea106:List AV:=[.a [I 10,I 2,I 1,I 30,I 5,.d (.s 1 [[.v (.string ⟨#[97,110,110]⟩)],[.v (.string ⟨#[98,111]⟩)]]),.d (.s 4 [[.v (.int .i64 (1000)),.v (.int .i64 (1)),.v (.int .i64 (3)),.s 2 [[.v (.int .i64 (1000)),.v (.int .i64 (300))],[.v (.int .i64 (900)),.v (.int .i64 (500))],[.v (.int .i64 (800)),.v (.int .i64 (700))]]]])],.x (.d (.s 1 [[.v (.string ⟨#[106,111,98,32,102,32,97,110,110,32,56,32,97,42,40,98,45,48,46,50,53,41,43,98,32,52,49,57,52,51,48,52,32,52,49,57,52,51,48,52]⟩)],[.v (.string ⟨#[99,97,108,108,32,114,32,98,111,32,50,48,32,114,111,111,116,32,50,48,57,55,49,53,50]⟩)],[.v (.string ⟨#[106,111,98,32,102,32,97,110,110,32,56,32,97,32,53]⟩)],[.v (.string ⟨#[114,117,110,32,49]⟩)],[.v (.string ⟨#[100,117,109,112,32,102,32,52]⟩)],[.v (.string ⟨#[116,119,105,110,32,102,32,54,32,49,52,32,56]⟩)],[.v (.string ⟨#[98,105,108,108,32,97,110,110]⟩)],[.v (.string ⟨#[102,97,117,108,116,32,49,48]⟩)],[.v (.string ⟨#[114,117,110,32,51,48]⟩)],[.v (.string ⟨#[109,97,114,103,105,110,32,48]⟩)],[.v (.string ⟨#[104,101,108,108,111]⟩)]]))]
def er106:AV:=.t [.x (.d (.s 1 [[.v (.string ⟨#[111,107]⟩)],[.v (.string ⟨#[111,107]⟩)],[.v (.string ⟨#[101,114,114,111,114,32,53]⟩)],[.v (.string ⟨#[97,116,32,51,32,102,32,53,50,52,50,56,56,48]⟩)],[.v (.string ⟨#[53,56,53,32,53,50,52,50,56,56,48]⟩)],[.v (.string ⟨#[54,32,54]⟩)],[.v (.string ⟨#[49,53]⟩)],[.v (.string ⟨#[111,107]⟩)],[.v (.string ⟨#[97,116,32,51,56,32,114,32,45]⟩)],[.v (.string ⟨#[49,48,48,48,32,49,48,48,48,32,50,51,52,32,55,48,49]⟩)],[.v (.string ⟨#[101,114,114,111,114,32,54]⟩)]])),.x (I 0)]
theorem ek106:FnC Tryz.prog 11 ea106 er106:=evF0 (M:=[ef1,ef2,ef3,ef4,ef5,ef6,ef13,ef15,ef16,ef17,ef18,ef19,ef20,ef21,ef22,ef27,ef28,ef29,ef30,ef31,ef32,ef33,ef34,ef35,ef36,ef37,ef38,ef39,ef40,ef41,ef42,ef43,ef44,ef45,ef46,ef59,ef60,ef61,ef62,ef63,ef64,ef65,ef66,ef67,ef83,ef84,ef85,ef86,ef87,ef88,ef89,ef90,ef91,ef92,ef93,ef94,ef95,ef96,ef97,ef98,ef0,ef99,ef100,ef101,ef102,ef103,ef104,ef105]) (by kernel_rfl) (by kernel_rfl)
def ef106:Fact Tryz.prog:=⟨11,ea106,er106,fun σ=>ek106.call (by kernel_rfl) (by kernel_rfl)⟩
end Go.Proofs.YtidkoikjdghlmaaGreatDoor
namespace Go.Proofs.YtidkoikjdghlmaaGreatDoor
open Go Go.QL FoT
set_option maxRecDepth 1000000
def ea107:List AV:=[.a [I 10,I 2,I 1,I 30,I 5,.d (.s 1 [[.v (.string ⟨#[97,110,110]⟩)],[.v (.string ⟨#[98,111]⟩)]]),.d (.s 4 [[.v (.int .i64 (1000)),.v (.int .i64 (1)),.v (.int .i64 (3)),.s 2 [[.v (.int .i64 (1000)),.v (.int .i64 (300))],[.v (.int .i64 (900)),.v (.int .i64 (500))],[.v (.int .i64 (800)),.v (.int .i64 (700))]]]])],.x (.d (.s 2 [[.v (.string ⟨#[106,111,98,32,102,32,97,110,110,32,56,32,97,42,40,98,45,48,46,50,53,41,43,98,32,52,49,57,52,51,48,52,32,52,49,57,52,51,48,52]⟩),.v (.string ⟨#[111,107]⟩)],[.v (.string ⟨#[99,97,108,108,32,114,32,98,111,32,50,48,32,114,111,111,116,32,50,48,57,55,49,53,50]⟩),.v (.string ⟨#[111,107]⟩)],[.v (.string ⟨#[106,111,98,32,102,32,97,110,110,32,56,32,97,32,53]⟩),.v (.string ⟨#[101,114,114,111,114,32,53]⟩)],[.v (.string ⟨#[114,117,110,32,49]⟩),.v (.string ⟨#[97,116,32,51,32,102,32,53,50,52,50,56,56,48]⟩)],[.v (.string ⟨#[100,117,109,112,32,102,32,52]⟩),.v (.string ⟨#[53,56,53,32,53,50,52,50,56,56,48]⟩)],[.v (.string ⟨#[116,119,105,110,32,102,32,54,32,49,52,32,56]⟩),.v (.string ⟨#[54,32,54]⟩)],[.v (.string ⟨#[98,105,108,108,32,97,110,110]⟩),.v (.string ⟨#[49,53]⟩)],[.v (.string ⟨#[102,97,117,108,116,32,49,48]⟩),.v (.string ⟨#[111,107]⟩)],[.v (.string ⟨#[114,117,110,32,51,48]⟩),.v (.string ⟨#[97,116,32,51,56,32,114,32,45]⟩)],[.v (.string ⟨#[109,97,114,103,105,110,32,48]⟩),.v (.string ⟨#[49,48,48,48,32,49,48,48,48,32,50,51,52,32,55,48,49]⟩)],[.v (.string ⟨#[104,101,108,108,111]⟩),.v (.string ⟨#[101,114,114,111,114,32,54]⟩)]]))]
def er107:AV:=.t [.x (I (-1)),.x (I 0)]
theorem ek107:FnC Tryz.prog 33 ea107 er107:=evF0 (M:=[ef1,ef2,ef3,ef4,ef5,ef6,ef13,ef15,ef16,ef17,ef18,ef19,ef20,ef21,ef22,ef27,ef28,ef29,ef30,ef31,ef32,ef33,ef34,ef35,ef36,ef37,ef38,ef39,ef40,ef41,ef42,ef43,ef44,ef45,ef46,ef59,ef60,ef61,ef62,ef63,ef64,ef65,ef66,ef67,ef83,ef84,ef85,ef86,ef87,ef88,ef89,ef90,ef91,ef92,ef93,ef94,ef95,ef96,ef97,ef98,ef0,ef99,ef100,ef101,ef102,ef103,ef104,ef105]) (by kernel_rfl) (by kernel_rfl)
def ef107:Fact Tryz.prog:=⟨33,ea107,er107,fun σ=>ek107.call (by kernel_rfl) (by kernel_rfl)⟩
end Go.Proofs.YtidkoikjdghlmaaGreatDoor
namespace Go.Proofs.YtidkoikjdghlmaaGreatDoor
open Go Go.QL FoT
set_option maxRecDepth 1000000
def ea108:List AV:=[.a [I 10,I 2,I 1,I 30,I 5,.d (.s 1 [[.v (.string ⟨#[97,110,110]⟩)],[.v (.string ⟨#[98,111]⟩)]]),.d (.s 4 [[.v (.int .i64 (1000)),.v (.int .i64 (1)),.v (.int .i64 (3)),.s 2 [[.v (.int .i64 (1000)),.v (.int .i64 (300))],[.v (.int .i64 (900)),.v (.int .i64 (500))],[.v (.int .i64 (800)),.v (.int .i64 (700))]]]])],.x (.d (.s 1 [[.v (.string ⟨#[106,111,98,32,102,32,97,110,110,32,56,32,97,42,40,98,45,48,46,50,53,41,43,98,32,52,49,57,52,51,48,52,32,52,49,57,52,51,48,52]⟩)],[.v (.string ⟨#[99,97,108,108,32,114,32,98,111,32,50,48,32,114,111,111,116,32,50,48,57,55,49,53,50]⟩)],[.v (.string ⟨#[106,111,98,32,102,32,97,110,110,32,56,32,97,32,53]⟩)],[.v (.string ⟨#[114,117,110,32,49]⟩)],[.v (.string ⟨#[100,117,109,112,32,102,32,52]⟩)],[.v (.string ⟨#[116,119,105,110,32,102,32,54,32,49,52,32,56]⟩)],[.v (.string ⟨#[98,105,108,108,32,97,110,110]⟩)],[.v (.string ⟨#[102,97,117,108,116,32,49,48]⟩)],[.v (.string ⟨#[114,117,110,32,51,48]⟩)],[.v (.string ⟨#[109,97,114,103,105,110,32,48]⟩)],[.v (.string ⟨#[104,101,108,108,111]⟩)]]))]
def er108:AV:=.t [.a [I 38,.d (.s 13 [[.v (.string ⟨#[102]⟩),.v (.int .i64 (0)),.s 1 [i 4194304,i 4194304],.v (.int .i64 (5242880)),.v (.string ⟨#[102]⟩),.v (.int .i64 (0)),.v (.int .i64 (8)),.v (.int .i64 (1)),.v (.int .i64 (1)),.v (.int .i64 (3)),.v (.int .i64 (15)),.v (.int .i64 (1)),.v (.int .i64 (3))],[.v (.string ⟨#[114]⟩),.v (.int .i64 (1)),.s 1 [i 2097152],.v (.int .i64 (4194304)),.v (.string ⟨#[114]⟩),.v (.int .i64 (0)),.v (.int .i64 (20)),.v (.int .i64 (27)),.v (.int .i64 (20)),.v (.int .i64 (38)),.v (.int .i64 (125)),.v (.int .i64 (2)),.v (.int .i64 (38))]]),.d (.s 1 [i 15,i 125]),I 28,I 0,I 10,I 0,.d (.s 2 [[.v (.int .i64 (234)),.v (.int .i64 (701))]])],.x (I 0)]
theorem ek108:FnC Tryz.prog 19 ea108 er108:=evF0 (M:=[ef1,ef2,ef3,ef4,ef5,ef6,ef13,ef15,ef16,ef17,ef18,ef19,ef20,ef21,ef22,ef27,ef28,ef29,ef30,ef31,ef32,ef33,ef34,ef35,ef36,ef37,ef38,ef39,ef40,ef41,ef42,ef43,ef44,ef45,ef46,ef59,ef60,ef61,ef62,ef63,ef64,ef65,ef66,ef67,ef83,ef84,ef85,ef86,ef87,ef88,ef89,ef90,ef91,ef92,ef93,ef94,ef95,ef96,ef97,ef98,ef0,ef99,ef100,ef101,ef102,ef103,ef104,ef105]) (by kernel_rfl) (by kernel_rfl)
def ef108:Fact Tryz.prog:=⟨19,ea108,er108,fun σ=>ek108.call (by kernel_rfl) (by kernel_rfl)⟩
def ea109:List AV:=[.x (.d (.s 2 [[.v (.string ⟨#[106,111,98,32,102,32,97,110,110,32,56,32,97,42,40,98,45,48,46,50,53,41,43,98,32,52,49,57,52,51,48,52,32,52,49,57,52,51,48,52]⟩),.v (.string ⟨#[111,107]⟩)]]))]
def er109:AV:=.t [.x (.d (.v (.string ⟨#[106,111,98,32,102,32,97,110,110,32,56,32,97,42,40,98,45,48,46,50,53,41,43,98,32,52,49,57,52,51,48,52,32,52,49,57,52,51,48,52,9,111,107,10]⟩))),.x (I 0)]
def ea110:List AV:=[]
def er110:AV:=.x (.d (.v (.bool true)))
theorem ek110 (h109:FnC Tryz.prog 21 ea109 er109):FnC Tryz.prog 9 ea110 er110:=evF0 (M:=[ef107,ef108,⟨21,ea109,er109,fun σ=>h109.call (by kernel_rfl) (by kernel_rfl)⟩]) (by kernel_rfl) (by kernel_rfl)
def ef110 (h109:FnC Tryz.prog 21 ea109 er109):Fact Tryz.prog:=⟨9,ea110,er110,fun σ=>(ek110 h109).call (by kernel_rfl) (by kernel_rfl)⟩
def ea111:List AV:=[]
def er111:AV:=.x (.d (.v (.bool true)))
theorem ek111 (h109:FnC Tryz.prog 21 ea109 er109):FnC Tryz.prog 4 ea111 er111:=evF0 (M:=[ef106,ef110 h109]) (by kernel_rfl) (by kernel_rfl)
def ef111 (h109:FnC Tryz.prog 21 ea109 er109):Fact Tryz.prog:=⟨4,ea111,er111,fun σ=>(ek111 h109).call (by kernel_rfl) (by kernel_rfl)⟩
end Go.Proofs.YtidkoikjdghlmaaGreatDoor
namespace Go.Proofs.YtidkoikjdghlmaaGreatDoor
open Go Go.QL FoT
set_option maxRecDepth 1000000
def r109:Row:=(⟨#[106,111,98,32,102,32,97,110,110,32,56,32,97,42,40,98,45,48,46,50,53,41,43,98,32,52,49,57,52,51,48,52,32,52,49,57,52,51,48,52]⟩,⟨#[111,107]⟩)
theorem p109a:FnC Tryz.prog 40 [sv r109.1] (bv true):=evF0 (M:=[]) (by kernel_rfl) (by kernel_rfl)
theorem p109b:FnC Tryz.prog 40 [sv r109.2] (bv true):=evF0 (M:=[]) (by kernel_rfl) (by kernel_rfl)
theorem e109:AV.t [sv ⟨(textL [r109]).toArray⟩,iv .i64 0]=er109:=by kernel_rfl
theorem h109:FnC Tryz.prog 21 ea109 er109:=e109 ▸ write_fn [r109] (by decide) (of_decide_eq_true (by kernel_rfl)) (fun r hr=>by
 have e:r=r109:=by simpa using hr
 subst e;exact⟨p109a,p109b⟩)
theorem awake13_fn:FnC Tryz.prog 9 [] (bv true):=ek110 h109
theorem zn0:FnC Tryz.prog 4 [] (bv true):=ek111 h109
end Go.Proofs.YtidkoikjdghlmaaGreatDoor
end
