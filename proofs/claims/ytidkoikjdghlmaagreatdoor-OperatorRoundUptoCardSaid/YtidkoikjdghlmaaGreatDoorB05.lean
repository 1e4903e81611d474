/- The logic of walks, and what the functions of the program return: part 5. No condition. -/
import Derived.Test.YtidkoikjdghlmaaGreatDoorB04
import Derived.KernelRfl
import Derived.Shelf.Spec.SlicesGrow
import Derived.Shelf.LaysM
import Derived.Shelf.LaysC
import Derived.Shelf.Strconv.Itoa3
import Derived.Shelf.Strconv.AtoiAll
import Derived.Shelf.Strconv.ErrVarAll
import Derived.Shelf.Strings.BuilderK
import Derived.Shelf.Strings.Repeat
import Derived.Shelf.Small.Wraps
import Derived.Shelf.Strings.Split
import Derived.Shelf.Strings.OnBuilder
import Derived.Test.YtidkoikjdghlmaaGreatDoorProg
import Derived.Lib.AppendIntMem
import Derived.Lib.ItoaLen
import Derived.Lib.SplitLaws
import Derived.Lib.AtoiErrMem
import Derived.Shelf.Strings.BuilderF
import Derived.WalkKit
import Derived.BigCall
set_option linter.all false
noncomputable section
namespace Go.Proofs.YtidkoikjdghlmaaGreatDoor
open Go Go.QL
set_option maxRecDepth 1000000
noncomputable def fp4:FnI Tryz.prog:=⟨4,Tryz.f4,36,[.tmp 0],[],287,0,false,false,Tryz.func4,by kernel_rfl,rfl,Tryz.ntmps4⟩
noncomputable def fp7:FnI Tryz.prog:=⟨7,Tryz.f7,68,[.tmp 2,.tmp 3,.tmp 4],[],18716978258792153599,0,false,false,Tryz.func7,by kernel_rfl,rfl,Tryz.ntmps7⟩
noncomputable def fp9:FnI Tryz.prog:=⟨9,Tryz.f9,67,[.tmp 0],[],127,0,false,false,Tryz.func9,by kernel_rfl,rfl,Tryz.ntmps9⟩
noncomputable def fp10:FnI Tryz.prog:=⟨10,Tryz.f10,13,[.tmp 0],[],1,0,false,false,Tryz.func10,by kernel_rfl,rfl,Tryz.ntmps10⟩
noncomputable def fp11:FnI Tryz.prog:=⟨11,Tryz.f11,33,[.tmp 4,.tmp 5],[],7995767,0,false,false,Tryz.func11,by kernel_rfl,rfl,Tryz.ntmps11⟩
noncomputable def fp12:FnI Tryz.prog:=⟨12,Tryz.f12,13,[.cell 0 27],[],3,0,false,false,Tryz.func12,by kernel_rfl,rfl,Tryz.ntmps12⟩
noncomputable def fp13:FnI Tryz.prog:=⟨13,Tryz.f13,20,[.tmp 2],[],285,0,false,false,Tryz.func13,by kernel_rfl,rfl,Tryz.ntmps13⟩
noncomputable def fp14:FnI Tryz.prog:=⟨14,Tryz.f14,26,[.tmp 4],[(6,⟨8,false,[0,1,2,3,4,5,6,7],[],[0,0,3,7,0,0,48,112,255],[]⟩)],33571891,0,false,false,Tryz.func14,by kernel_rfl,rfl,Tryz.ntmps14⟩
noncomputable def fp19:FnI Tryz.prog:=⟨19,Tryz.f19,106,[.cell 4 64,.tmp 5],[(9,⟨9,false,[0,1,2,3,4,5,6,7,8],[],[0,1,3,7,15,0,32,96,224,511,1023],[]⟩),(19,⟨6,false,[0,1,2,3],[⟨4,false,false,[0,1],[5]⟩],[0,1,0,0,12,28,63,127,255],[]⟩),(24,⟨6,false,[0,1,2,3],[⟨4,false,false,[0,1],[5]⟩],[0,1,0,0,12,28,63,127,255],[]⟩)],34662585552515799459886538615,0,false,false,Tryz.func19,by kernel_rfl,rfl,Tryz.ntmps19⟩
noncomputable def fp21:FnI Tryz.prog:=⟨21,Tryz.f21,38,[.tmp 2,.tmp 3],[],68753047133,0,false,false,Tryz.func21,by kernel_rfl,rfl,Tryz.ntmps21⟩
noncomputable def fp24:FnI Tryz.prog:=⟨24,Tryz.f24,85,[.tmp 2,.tmp 3,.tmp 4],[],9455037344661612040191,0,false,false,Tryz.func24,by kernel_rfl,rfl,Tryz.ntmps24⟩
noncomputable def fp25:FnI Tryz.prog:=⟨25,Tryz.f25,15,[.tmp 6],[],71,0,false,false,Tryz.func25,by kernel_rfl,rfl,Tryz.ntmps25⟩
noncomputable def fp26:FnI Tryz.prog:=⟨26,Tryz.f26,47,[.tmp 2],[],2166259741,0,false,false,Tryz.func26,by kernel_rfl,rfl,Tryz.ntmps26⟩
noncomputable def fp27:FnI Tryz.prog:=⟨27,Tryz.f27,9,[.tmp 4],[],19,0,false,false,Tryz.func27,by kernel_rfl,rfl,Tryz.ntmps27⟩
noncomputable def fp28:FnI Tryz.prog:=⟨28,Tryz.f28,81,[.tmp 2],[],144193804235178111,0,false,false,Tryz.func28,by kernel_rfl,rfl,Tryz.ntmps28⟩
noncomputable def fp33:FnI Tryz.prog:=⟨33,Tryz.f33,21,[.tmp 4,.tmp 5],[],65783,0,false,false,Tryz.func33,by kernel_rfl,rfl,Tryz.ntmps33⟩
noncomputable def fp34:FnI Tryz.prog:=⟨34,Tryz.f34,26,[.tmp 4],[(6,⟨8,false,[0,1,2,3,4,5,6,7],[],[0,0,3,7,0,0,48,112,255],[]⟩)],33571891,0,false,false,Tryz.func34,by kernel_rfl,rfl,Tryz.ntmps34⟩
noncomputable def fp35:FnI Tryz.prog:=⟨35,Tryz.f35,27,[.tmp 4,.tmp 5],[(6,⟨5,false,[0,1,2,3],[⟨4,false,false,[0],[]⟩],[0,0,2,6,14,31,63,127,255],[]⟩)],590135,0,false,false,Tryz.func35,by kernel_rfl,rfl,Tryz.ntmps35⟩
noncomputable def fp36:FnI Tryz.prog:=⟨36,Tryz.f36,37,[.cell 4 9],[],499,2,false,false,Tryz.func36,by kernel_rfl,rfl,Tryz.ntmps36⟩
noncomputable def fp38:FnI Tryz.prog:=⟨38,Tryz.f38,34,[.tmp 4],[],1064051,0,false,false,Tryz.func38,by kernel_rfl,rfl,Tryz.ntmps38⟩
noncomputable def fp39:FnI Tryz.prog:=⟨39,Tryz.f39,51,[.cell 4 69],[(2,⟨11,true,[0,1,2,3,4,5,10],[⟨6,false,false,[10],[7,8]⟩,⟨9,false,false,[10],[]⟩],[0,0,2,6,14,0,63,127,127,511,0,2047],[]⟩),(7,⟨7,false,[0,1,2,3,4,5,6],[],[0,1,3,0,8,24,56,127,255,511],[]⟩)],565861942771,0,false,false,Tryz.func39,by kernel_rfl,rfl,Tryz.ntmps39⟩
noncomputable def fp40:FnI Tryz.prog:=⟨40,Tryz.f40,7,[.tmp 2],[],5,0,false,false,Tryz.func40,by kernel_rfl,rfl,Tryz.ntmps40⟩
noncomputable def fp41:FnI Tryz.prog:=⟨41,Tryz.f41,19,[.tmp 4,.tmp 5],[],51,0,false,false,Tryz.func41,by kernel_rfl,rfl,Tryz.ntmps41⟩
noncomputable def fp42:FnI Tryz.prog:=⟨42,Tryz.f42,8,[.tmp 2],[],5,0,false,false,Tryz.func42,by kernel_rfl,rfl,Tryz.ntmps42⟩
noncomputable def fp45:FnI Tryz.prog:=⟨45,Tryz.f45,26,[.tmp 2],[],7,0,false,false,Tryz.func45,by kernel_rfl,rfl,Tryz.ntmps45⟩
noncomputable def fp46:FnI Tryz.prog:=⟨46,Tryz.f46,16,[.tmp 2],[],7,0,false,false,Tryz.func46,by kernel_rfl,rfl,Tryz.ntmps46⟩
noncomputable def fp47:FnI Tryz.prog:=⟨47,Tryz.f47,15,[.tmp 6],[],71,0,false,false,Tryz.func47,by kernel_rfl,rfl,Tryz.ntmps47⟩
noncomputable def fp48:FnI Tryz.prog:=⟨48,Tryz.f48,15,[.tmp 6],[],71,0,false,false,Tryz.func48,by kernel_rfl,rfl,Tryz.ntmps48⟩
noncomputable def fp49:FnI Tryz.prog:=⟨49,Tryz.f49,19,[.tmp 4],[],66483,0,false,false,Tryz.func49,by kernel_rfl,rfl,Tryz.ntmps49⟩
noncomputable def fp50:FnI Tryz.prog:=⟨50,Tryz.f50,8,[.tmp 4],[],23,0,false,false,Tryz.func50,by kernel_rfl,rfl,Tryz.ntmps50⟩
noncomputable def fp53:FnI Tryz.prog:=⟨53,Tryz.f53,19,[.tmp 4],[],66483,0,false,false,Tryz.func53,by kernel_rfl,rfl,Tryz.ntmps53⟩
noncomputable def fp54:FnI Tryz.prog:=⟨54,Tryz.f54,11,[.tmp 3],[(1,⟨6,false,[0,1,2,4,5],[⟨3,false,false,[4,5],[]⟩],[0,0,2,7,0,16,63,127],[]⟩)],15,0,false,false,Tryz.func54,by kernel_rfl,rfl,Tryz.ntmps54⟩
noncomputable def fp55:FnI Tryz.prog:=⟨55,Tryz.f55,11,[],[],19,0,false,false,Tryz.func55,by kernel_rfl,rfl,Tryz.ntmps55⟩
noncomputable def fp56:FnI Tryz.prog:=⟨56,Tryz.f56,31,[.tmp 2],[],528365,0,false,false,Tryz.func56,by kernel_rfl,rfl,Tryz.ntmps56⟩
noncomputable def fp57:FnI Tryz.prog:=⟨57,Tryz.f57,8,[],[],35,0,false,false,Tryz.func57,by kernel_rfl,rfl,Tryz.ntmps57⟩
noncomputable def fp59:FnI Tryz.prog:=⟨59,Tryz.f59,8,[.tmp 4],[],19,0,false,false,Tryz.func59,by kernel_rfl,rfl,Tryz.ntmps59⟩
noncomputable def fp60:FnI Tryz.prog:=⟨60,Tryz.f60,8,[.tmp 4],[],19,0,false,false,Tryz.func60,by kernel_rfl,rfl,Tryz.ntmps60⟩
noncomputable def fp61:FnI Tryz.prog:=⟨61,Tryz.f61,138,[.tmp 4],[(5,⟨8,false,[0,1,2,3,4,5,6,7],[],[0,0,2,6,14,30,0,126,255],[]⟩),(18,⟨22,false,[0,1,2,3,4,5,6,7,8,9,10,11,12,13,14,15,16,17,18,19,20,21],[],[0,0,2,6,14,0,32,126,254,510,1022,0,2048,6144,14336,0,32768,129024,260096,522240,1046528,2097150,4194303,8388607],[]⟩),(20,⟨13,false,[0,1,2,3,4,5,6,7,8,9,10,11,12],[],[0,0,2,6,14,0,32,126,254,510,1022,0,4094,8191,16383],[]⟩),(21,⟨9,false,[0,1,2,3,4,5,6,8],[⟨7,false,false,[8],[]⟩],[0,0,2,6,14,30,62,127,0,511,1023,2047],[]⟩)],2596148545329016016955637214740983,1,false,false,Tryz.func61,by kernel_rfl,rfl,Tryz.ntmps61⟩
noncomputable def fp62:FnI Tryz.prog:=⟨62,Tryz.f62,73,[.tmp 4],[(8,⟨10,false,[0,1,2,3,4,5,6,7,8,9],[],[0,1,3,7,15,0,32,0,128,480,1023,2047],[]⟩),(10,⟨14,false,[0,1,2,3,4,5,6,7,8,9,10,11,12],[⟨13,false,false,[0],[]⟩],[0,0,2,6,14,0,32,96,224,480,0,2016,4064,8190,16383,32767,65535],[]⟩)],4123168604339,0,false,false,Tryz.func62,by kernel_rfl,rfl,Tryz.ntmps62⟩
noncomputable def fp63:FnI Tryz.prog:=⟨63,Tryz.f63,80,[.tmp 4],[(4,⟨9,false,[0,1,2,3],[⟨4,false,false,[],[5,6,7,8]⟩],[0,0,2,6,15,31,63,63,127,511],[]⟩),(7,⟨15,false,[0,1,2,3,5,6,7,8,9,10,11,12,13,14],[⟨4,false,false,[5,6,7,8,9,10,11,12,13,14],[]⟩],[0,1,3,7,15,0,0,64,192,0,512,1536,3584,8160,16352,32767,65535],[]⟩)],3571,0,false,false,Tryz.func63,by kernel_rfl,rfl,Tryz.ntmps63⟩
noncomputable def fp64:FnI Tryz.prog:=⟨64,Tryz.f64,56,[.tmp 4],[(4,⟨15,true,[0,1,2,3,4,5,10,11,13,14],[⟨6,false,false,[10,11,13,14],[7,8]⟩,⟨9,false,false,[10,11,13,14],[]⟩,⟨12,false,false,[13,14],[]⟩],[0,0,2,6,14,0,63,127,127,511,0,0,4095,0,0,32767,65535],[]⟩),(6,⟨14,false,[0,1,2,3,4,5,6,7,8,10,11,12],[⟨9,false,false,[0,1,2,3,4,5,10,11,12],[]⟩,⟨13,false,false,[0,1,2,3,4,5],[]⟩],[0,1,3,0,8,24,0,0,128,448,0,0,2048,8128,16383,32767,65535],[]⟩)],4083,0,false,false,Tryz.func64,by kernel_rfl,rfl,Tryz.ntmps64⟩
noncomputable def fp65:FnI Tryz.prog:=⟨65,Tryz.f65,31,[.tmp 4],[],179,0,false,false,Tryz.func65,by kernel_rfl,rfl,Tryz.ntmps65⟩
noncomputable def fp66:FnI Tryz.prog:=⟨66,Tryz.f66,28,[.tmp 4],[(2,⟨8,false,[0,1,2,3,4,5,6,7],[],[0,1,3,7,15,0,32,96,255,511],[]⟩)],51,0,false,false,Tryz.func66,by kernel_rfl,rfl,Tryz.ntmps66⟩
noncomputable def fp67:FnI Tryz.prog:=⟨67,Tryz.f67,70,[.tmp 4],[(5,⟨26,true,[0,1,2,3,4,5,6,7,8,9,10,11,12,13,14,15,16,17,23],[⟨18,false,false,[23],[19,20,21,22,24]⟩,⟨25,false,false,[22],[]⟩],[0,1,3,7,0,31,63,0,128,384,0,1024,3072,0,8192,24576,65408,130944,262143,524287,1048575,1048575,1048575,0,10485759,29360127,67108863],[]⟩)],288230376151713779,0,false,false,Tryz.func67,by kernel_rfl,rfl,Tryz.ntmps67⟩
noncomputable def fp68:FnI Tryz.prog:=⟨68,Tryz.f68,69,[.tmp 4],[],1011,0,false,false,Tryz.func68,by kernel_rfl,rfl,Tryz.ntmps68⟩
noncomputable def fp69:FnI Tryz.prog:=⟨69,Tryz.f69,42,[.tmp 4,.cell 5 46,.tmp 6],[(3,⟨22,false,[0,1,2,3,4,5,6,7,8,9,10,11,12,13,14,15,16,17,18,19,20],[⟨21,false,false,[9,10,11,12,13,14,15,16,17,18,19],[]⟩],[0,0,2,6,14,30,0,126,254,0,512,1536,3584,7680,15872,0,32768,98304,229376,523776,1,1049087,4194303],[]⟩)],243,0,false,false,Tryz.func69,by kernel_rfl,rfl,Tryz.ntmps69⟩
noncomputable def fp70:FnI Tryz.prog:=⟨70,Tryz.f70,10,[.cell 4 69],[],23,0,false,false,Tryz.func70,by kernel_rfl,rfl,Tryz.ntmps70⟩
noncomputable def fp71:FnI Tryz.prog:=⟨71,Tryz.f71,23,[.cell 6 69,.tmp 7],[],263119,0,false,false,Tryz.func71,by kernel_rfl,rfl,Tryz.ntmps71⟩
noncomputable def fp72:FnI Tryz.prog:=⟨72,Tryz.f72,9,[.tmp 4],[],19,0,false,false,Tryz.func72,by kernel_rfl,rfl,Tryz.ntmps72⟩
noncomputable def fp73:FnI Tryz.prog:=⟨73,Tryz.f73,9,[.tmp 2],[],5,0,false,false,Tryz.func73,by kernel_rfl,rfl,Tryz.ntmps73⟩
noncomputable def fp76:FnI Tryz.prog:=⟨76,Tryz.f76,9,[.tmp 4],[],19,0,false,false,Tryz.func76,by kernel_rfl,rfl,Tryz.ntmps76⟩
noncomputable def fp77:FnI Tryz.prog:=⟨77,Tryz.f77,11,[.tmp 3],[],11,0,false,false,Tryz.func77,by kernel_rfl,rfl,Tryz.ntmps77⟩
noncomputable def fp81:FnI Tryz.prog:=⟨81,Tryz.f81,152,[.tmp 6],[(2,⟨6,false,[0,1,2,4,5],[⟨3,false,false,[4,5],[]⟩],[0,1,3,7,0,16,63,127,255],[(1,0)]⟩),(5,⟨8,false,[0,1,2,3,4,5,6,7],[],[0,1,3,7,15,0,32,96,255,511],[]⟩),(13,⟨16,false,[0,1,2,3,4,5,6,7,8,9,10,11,12,13,14],[⟨15,false,false,[0,1,2,3,4,5,6,7,8,9,10,11,12,13,14],[]⟩],[0,1,3,0,8,24,56,120,0,0,512,1536,3584,7680,16383,0,65535],[]⟩),(14,⟨17,false,[0,1,2,3,4,5,6,7,8,9,10,11,12,13,14,15],[⟨16,false,false,[0],[]⟩],[0,0,2,6,14,0,32,0,0,0,512,1536,3584,0,16352,32736,65534,131071,262143,524287],[]⟩),(15,⟨8,false,[0,1,2,3,4,5,6],[⟨7,false,false,[0],[]⟩],[0,0,2,6,14,0,32,126,255,511,1023],[]⟩),(16,⟨11,false,[0,1,2,3,4,5,6,7,8,9],[⟨10,false,false,[0],[]⟩],[0,0,2,6,14,30,0,64,192,448,1022,2047,4095,8191,16383],[]⟩)],64967,0,false,false,Tryz.func81,by kernel_rfl,rfl,Tryz.ntmps81⟩
noncomputable def fp82:FnI Tryz.prog:=⟨82,Tryz.f82,34,[.cell 4 157],[],179,0,false,false,Tryz.func82,by kernel_rfl,rfl,Tryz.ntmps82⟩
noncomputable def fp83:FnI Tryz.prog:=⟨83,Tryz.f83,65,[.cell 2 160,.cell 3 3,.cell 4 28],[(8,⟨19,false,[0,1,2,3,4,5,6,7,9,10,11,12,13,14],[⟨8,false,false,[0,1,9,10,11,12,13,14],[]⟩,⟨15,false,false,[0,1],[16,17]⟩,⟨18,false,false,[1],[]⟩],[0,0,0,4,12,28,0,64,252,0,512,1536,3584,0,8192,32764,65533,131069,262141,524287,1048575,2097151],[]⟩)],576531121048061181,2,false,false,Tryz.func83,by kernel_rfl,rfl,Tryz.ntmps83⟩
noncomputable def fp84:FnI Tryz.prog:=⟨84,Tryz.f84,5,[.tmp 2],[],5,0,false,false,Tryz.func84,by kernel_rfl,rfl,Tryz.ntmps84⟩
noncomputable def fp85:FnI Tryz.prog:=⟨85,Tryz.f85,10,[.cell 4 157],[],23,0,false,false,Tryz.func85,by kernel_rfl,rfl,Tryz.ntmps85⟩
noncomputable def fp86:FnI Tryz.prog:=⟨86,Tryz.f86,180,[.cell 2 157,.tmp 3],[(13,⟨12,false,[0,1,2,3,4,5,6,7,8,9,10,11],[],[0,1,3,7,15,31,0,64,192,448,960,1984,4095,8191,16383,32767],[]⟩),(14,⟨13,false,[0,1,2,3,4,5,6,7,8,9,10,11],[⟨12,false,false,[0,1,2,3,4,5,6,7,8,9,10,11],[]⟩],[0,1,0,4,12,28,60,124,255,0,512,2047,0,8191],[]⟩),(15,⟨12,true,[0,1,2,3,4,5,6,7,8,9,10],[⟨11,false,false,[0,1,2,3,4,5,6,7,8],[]⟩],[0,1,0,4,12,28,60,124,255,0,0,1536,4095,8191],[]⟩),(29,⟨10,false,[0,1,2,3,4,5,6],[⟨7,false,false,[0,1,2,3,4,5],[8,9]⟩],[0,0,2,0,8,30,0,64,254,510,1023],[]⟩),(35,⟨15,true,[0,1,2,3,4,5,6,7,8,9,10,11,12,13,14],[],[0,1,3,7,0,16,48,112,240,496,1008,2032,0,0,8192,32767,65535,131071,262143],[]⟩)],22303467469067533275322318250836678282509759,0,false,false,Tryz.func86,by kernel_rfl,rfl,Tryz.ntmps86⟩
noncomputable def fp87:FnI Tryz.prog:=⟨87,Tryz.f87,59,[.cell 4 157],[],481036337651,0,false,false,Tryz.func87,by kernel_rfl,rfl,Tryz.ntmps87⟩
noncomputable def fp88:FnI Tryz.prog:=⟨88,Tryz.f88,10,[.cell 4 168],[],23,0,false,false,Tryz.func88,by kernel_rfl,rfl,Tryz.ntmps88⟩
noncomputable def fp89:FnI Tryz.prog:=⟨89,Tryz.f89,184,[.cell 2 168,.tmp 3],[(30,⟨26,false,[0,1,2,3,4,5,6,7,8,9,10,11,12,13,14,15,16,17,18,19,20,21,22,23,24],[⟨25,false,false,[12,23],[]⟩],[0,0,2,6,14,30,0,64,192,448,960,2046,0,0,8192,24576,57344,122880,0,262144,786432,1835008,3932160,8380416,8384511,25161727,67108863,134217727],[]⟩),(31,⟨21,false,[0,1,2,3,4,5,6,7,9,10,11,12,13,14,15],[⟨8,false,false,[0,1,9,10,11,12,13,14,15],[]⟩,⟨16,false,false,[0,1],[17,18,19]⟩,⟨20,false,false,[1],[]⟩],[0,0,0,4,12,28,60,0,252,0,512,1536,3584,7680,0,16384,65532,131069,262141,524285,1048573,2097151,4194303,8388607,16777215],[]⟩),(36,⟨14,false,[0,1,2,3,4,5,6,7,8,9,10,11,12],[⟨13,false,false,[0],[]⟩],[0,0,2,6,14,30,0,64,192,448,0,1984,4032,8190,16383,32767,65535,131071],[]⟩)],1370157784997721485815954530671515893877390487037,0,false,false,Tryz.func89,by kernel_rfl,rfl,Tryz.ntmps89⟩
noncomputable def fp90:FnI Tryz.prog:=⟨90,Tryz.f90,5,[.tmp 2],[],5,0,false,false,Tryz.func90,by kernel_rfl,rfl,Tryz.ntmps90⟩
noncomputable def fp91:FnI Tryz.prog:=⟨91,Tryz.f91,245,[.cell 6 157,.tmp 7],[(44,⟨12,false,[0,1,2,3,4,5,6,7,8,9],[⟨10,false,false,[0,1,2,3,4,5,6,7,8,9],[]⟩,⟨11,false,false,[6,7,8,9],[]⟩],[0,0,2,7,15,31,0,0,128,448,0,1087,4095],[]⟩),(55,⟨14,false,[0,1,2,3,4,5,6,7,8,9,10,11,13],[⟨12,false,false,[0,1,2,3,4,5,6,7,8,9,10,13],[]⟩],[0,1,3,7,15,0,0,64,192,448,960,0,2048,0,16383,32767,65535,131071],[]⟩)],21922566383399331136045766979021260638229041511367,0,false,false,Tryz.func91,by kernel_rfl,rfl,Tryz.ntmps91⟩
noncomputable def fp92:FnI Tryz.prog:=⟨92,Tryz.f92,29,[.tmp 2],[],29,0,false,false,Tryz.func92,by kernel_rfl,rfl,Tryz.ntmps92⟩
noncomputable def fp93:FnI Tryz.prog:=⟨93,Tryz.f93,6,[.tmp 4],[],31,0,false,false,Tryz.func93,by kernel_rfl,rfl,Tryz.ntmps93⟩
noncomputable def fp94:FnI Tryz.prog:=⟨94,Tryz.f94,18,[.tmp 2],[],501,0,false,false,Tryz.func94,by kernel_rfl,rfl,Tryz.ntmps94⟩
noncomputable def fp95:FnI Tryz.prog:=⟨95,Tryz.f95,24,[.tmp 4,.tmp 5],[],139511,0,false,false,Tryz.func95,by kernel_rfl,rfl,Tryz.ntmps95⟩
noncomputable def fp96:FnI Tryz.prog:=⟨96,Tryz.f96,9,[.tmp 2],[],5,0,false,false,Tryz.func96,by kernel_rfl,rfl,Tryz.ntmps96⟩
noncomputable def fp97:FnI Tryz.prog:=⟨97,Tryz.f97,10,[.cell 4 43],[],23,0,false,false,Tryz.func97,by kernel_rfl,rfl,Tryz.ntmps97⟩
noncomputable def fp98:FnI Tryz.prog:=⟨98,Tryz.f98,25,[.cell 6 43,.tmp 7],[],263119,0,false,false,Tryz.func98,by kernel_rfl,rfl,Tryz.ntmps98⟩
noncomputable def fp99:FnI Tryz.prog:=⟨99,Tryz.f99,8,[.tmp 2],[],21,0,false,false,Tryz.func99,by kernel_rfl,rfl,Tryz.ntmps99⟩
noncomputable def fp100:FnI Tryz.prog:=⟨100,Tryz.f100,16,[.tmp 4,.tmp 5],[],123,0,false,false,Tryz.func100,by kernel_rfl,rfl,Tryz.ntmps100⟩
noncomputable def fp101:FnI Tryz.prog:=⟨101,Tryz.f101,74,[.cell 6 3,.cell 7 198,.cell 8 28],[(3,⟨4,false,[0,1],[⟨2,false,false,[0,1],[]⟩,⟨3,false,false,[1],[]⟩],[0,0,0,5,15],[]⟩),(4,⟨7,true,[0,1,3,5,6],[⟨2,false,false,[3,5,6],[]⟩,⟨4,false,false,[5,6],[]⟩],[0,0,3,0,15,0,0,127,255],[]⟩),(9,⟨8,false,[0,1,2,3,4,5,6,7],[],[0,1,3,7,0,16,48,112,255],[]⟩),(10,⟨9,false,[0,1,2,3,4,5,6,7,8],[],[0,1,0,4,0,16,48,112,240,511,1023],[]⟩),(11,⟨7,false,[0,1,2,3,4,5,6],[],[0,1,3,7,15,0,32,127],[]⟩),(13,⟨3,false,[0,1],[⟨2,false,false,[1],[]⟩],[0,0,1,7,15],[]⟩),(14,⟨2,false,[0],[⟨1,false,false,[0],[]⟩],[0,0,3,7],[]⟩)],576462953205997519,1,false,false,Tryz.func101,by kernel_rfl,rfl,Tryz.ntmps101⟩
noncomputable def fp102:FnI Tryz.prog:=⟨102,Tryz.f102,10,[.tmp 4],[],19,0,false,false,Tryz.func102,by kernel_rfl,rfl,Tryz.ntmps102⟩
noncomputable def fp103:FnI Tryz.prog:=⟨103,Tryz.f103,52,[.tmp 2,.tmp 3],[],32975,0,false,false,Tryz.func103,by kernel_rfl,rfl,Tryz.ntmps103⟩
noncomputable def fp104:FnI Tryz.prog:=⟨104,Tryz.f104,10,[.cell 4 202],[],23,0,false,false,Tryz.func104,by kernel_rfl,rfl,Tryz.ntmps104⟩
noncomputable def fp106:FnI Tryz.prog:=⟨106,Tryz.f106,87,[.cell 2 202,.cell 3 28],[(4,⟨3,false,[0,1],[⟨2,false,false,[1],[]⟩],[0,0,1,7],[]⟩)],19342813113834066797399965,2,false,false,Tryz.func106,by kernel_rfl,rfl,Tryz.ntmps106⟩
noncomputable def fp107:FnI Tryz.prog:=⟨107,Tryz.f107,77,[.tmp 6,.tmp 7],[(12,⟨7,false,[0,1,2,3,4,5],[⟨6,false,false,[0],[]⟩],[0,0,0,4,0,16,62,127,255,511],[]⟩),(13,⟨10,false,[0,1,2,3,4,5,6,7,8,9],[],[0,1,3,7,15,0,32,96,224,480,1023],[]⟩)],79551583850120481743,0,false,false,Tryz.func107,by kernel_rfl,rfl,Tryz.ntmps107⟩
noncomputable def fp108:FnI Tryz.prog:=⟨108,Tryz.f108,35,[.cell 2 69],[(3,⟨25,false,[0,1,2,3,4,5,6,7,8,9,10,11,13,14,15,16,17,18,19,20,21,22,23,24],[⟨12,false,false,[13,14,15,16,17,18,19,20,21,22,23,24],[]⟩],[0,0,2,6,14,30,0,64,192,448,960,1984,4095,0,0,16384,49152,114688,245760,0,524288,1572864,3670016,7864320,16252928,33554431,67108863,134217727],[]⟩)],31,0,false,false,Tryz.func108,by kernel_rfl,rfl,Tryz.ntmps108⟩
noncomputable def fp109:FnI Tryz.prog:=⟨109,Tryz.f109,19,[.tmp 4],[],66483,0,false,false,Tryz.func109,by kernel_rfl,rfl,Tryz.ntmps109⟩
noncomputable def fp112:FnI Tryz.prog:=⟨112,Tryz.f112,19,[.tmp 4],[],66483,0,false,false,Tryz.func112,by kernel_rfl,rfl,Tryz.ntmps112⟩
noncomputable def fp118:FnI Tryz.prog:=⟨118,Tryz.f118,43,[.cell 6 202,.tmp 7],[(5,⟨6,true,[0,1,3,4,5],[⟨2,false,false,[0,3,4,5],[]⟩],[0,0,2,0,0,16,63,127],[]⟩)],262599,0,false,false,Tryz.func118,by kernel_rfl,rfl,Tryz.ntmps118⟩
noncomputable def fp119:FnI Tryz.prog:=⟨119,Tryz.f119,10,[],[(2,⟨4,false,[0,1,2],[⟨3,false,false,[1,2],[]⟩],[0,0,2,1,15,31],[]⟩)],79,0,false,false,Tryz.func119,by kernel_rfl,rfl,Tryz.ntmps119⟩
noncomputable def fp120:FnI Tryz.prog:=⟨120,Tryz.f120,4,[.tmp 2],[],7,0,false,false,Tryz.func120,by kernel_rfl,rfl,Tryz.ntmps120⟩
noncomputable def fp121:FnI Tryz.prog:=⟨121,Tryz.f121,28,[],[],8396829,0,false,false,Tryz.func121,by kernel_rfl,rfl,Tryz.ntmps121⟩
noncomputable def fp122:FnI Tryz.prog:=⟨122,Tryz.f122,138,[.tmp 2],[(15,⟨5,false,[0,2,3,4],[⟨1,false,false,[2,3,4],[]⟩],[0,1,0,4,12,31,63],[]⟩),(24,⟨14,false,[0,1,2,3],[⟨4,false,false,[],[5,6,7,8,10,11]⟩,⟨9,false,false,[7,8,10,11],[12,13]⟩],[0,1,3,7,15,31,63,127,255,127,127,1151,3711,7807,16383,32767,65535,131071,262143,524287,1048575,2097151,4194303,8388607,16777215,33554431,67108863,134217727],[]⟩)],787319655327570336759445637302972319487,0,false,false,Tryz.func122,by kernel_rfl,rfl,Tryz.ntmps122⟩
noncomputable def fp123:FnI Tryz.prog:=⟨123,Tryz.f123,24,[.tmp 2,.tmp 3],[(1,⟨8,false,[0,1,2,4,5],[⟨3,false,false,[0,1,2,4,5],[6,7]⟩],[0,1,3,0,0,16,56,15,255],[]⟩)],65599,0,false,false,Tryz.func123,by kernel_rfl,rfl,Tryz.ntmps123⟩
noncomputable def fp124:FnI Tryz.prog:=⟨124,Tryz.f124,13,[.tmp 3],[],15,0,false,false,Tryz.func124,by kernel_rfl,rfl,Tryz.ntmps124⟩
noncomputable def fp125:FnI Tryz.prog:=⟨125,Tryz.f125,37,[],[],3939,0,false,false,Tryz.func125,by kernel_rfl,rfl,Tryz.ntmps125⟩
noncomputable def fp126:FnI Tryz.prog:=⟨126,Tryz.f126,36,[.tmp 2],[],504373101,0,false,false,Tryz.func126,by kernel_rfl,rfl,Tryz.ntmps126⟩
noncomputable def fp127:FnI Tryz.prog:=⟨127,Tryz.f127,30,[],[(3,⟨17,false,[0,1,2,3,4,5,6,7,8,9,10,11,12,13,14,15,16],[],[0,1,3,7,0,0,32,96,224,480,992,0,2048,6144,14336,30720,65504,131071],[]⟩)],995,0,false,false,Tryz.func127,by kernel_rfl,rfl,Tryz.ntmps127⟩
noncomputable def fp128:FnI Tryz.prog:=⟨128,Tryz.f128,29,[],[(0,⟨16,false,[0,1,2,3,4,5,6,7,8,9,10,11,12,13,14],[⟨15,false,false,[0,1,2,3,4,5,6,7,8,9,10,11,12,13,14],[]⟩],[0,0,2,6,14,0,62,0,128,384,896,0,3968,0,16383,0,65535],[]⟩)],1055,0,false,false,Tryz.func128,by kernel_rfl,rfl,Tryz.ntmps128⟩
noncomputable def fp129:FnI Tryz.prog:=⟨129,Tryz.f129,19,[],[],15,0,false,false,Tryz.func129,by kernel_rfl,rfl,Tryz.ntmps129⟩
noncomputable def fp130:FnI Tryz.prog:=⟨130,Tryz.f130,42,[.tmp 2],[(8,⟨10,false,[0,1,2,3,4],[⟨5,false,false,[],[6,7,8,9]⟩],[0,0,3,0,8,31,63,127,127,255,1023],[(0,0)]⟩)],569085295837,0,false,false,Tryz.func130,by kernel_rfl,rfl,Tryz.ntmps130⟩
noncomputable def fp131:FnI Tryz.prog:=⟨131,Tryz.f131,15,[.tmp 6],[],71,0,false,false,Tryz.func131,by kernel_rfl,rfl,Tryz.ntmps131⟩
noncomputable def fp132:FnI Tryz.prog:=⟨132,Tryz.f132,70,[.tmp 6,.tmp 7],[(13,⟨10,false,[0,1,2,3,4,5,6,7,8,9],[],[0,1,3,0,0,24,56,120,248,504,1023,2047],[]⟩)],19140607717129159,0,false,false,Tryz.func132,by kernel_rfl,rfl,Tryz.ntmps132⟩
noncomputable def fp133:FnI Tryz.prog:=⟨133,Tryz.f133,13,[.tmp 4,.tmp 5],[],115,0,false,false,Tryz.func133,by kernel_rfl,rfl,Tryz.ntmps133⟩
noncomputable def fp134:FnI Tryz.prog:=⟨134,Tryz.f134,8,[.tmp 3],[],15,0,false,false,Tryz.func134,by kernel_rfl,rfl,Tryz.ntmps134⟩
noncomputable def fp135:FnI Tryz.prog:=⟨135,Tryz.f135,60,[.tmp 4],[(7,⟨23,false,[0,1,2,3,4,5,7,8,9,10,12,13,14,15],[⟨6,false,false,[0,1,7,8,9,10,12,13,14,15],[]⟩,⟨11,false,false,[0,1,12,13,14,15],[]⟩,⟨16,false,false,[0,1],[17]⟩,⟨18,false,false,[],[19,20,21,22]⟩],[0,1,0,0,8,0,60,0,0,256,0,2044,0,0,8192,0,65532,131071,262143,524287,1048575,1048575,2097151],[]⟩)],493047,0,false,false,Tryz.func135,by kernel_rfl,rfl,Tryz.ntmps135⟩
noncomputable def fp136:FnI Tryz.prog:=⟨136,Tryz.f136,21,[],[],15,0,false,false,Tryz.func136,by kernel_rfl,rfl,Tryz.ntmps136⟩
noncomputable def fp137:FnI Tryz.prog:=⟨137,Tryz.f137,37,[],[(2,⟨22,false,[0,1,2,3,4,5,6,7,8,10,11,12,13,14,15,16],[⟨9,false,false,[0,1,10,11,12,13,14,15,16],[]⟩,⟨17,false,false,[0,1],[18,19,20]⟩,⟨21,false,false,[1],[]⟩],[0,0,0,4,12,28,60,0,128,508,0,1024,3072,7168,15360,0,32768,131068,262141,524285,1048573,2097149,4194303,8388607,16777215,33554431],[]⟩)],87,0,false,false,Tryz.func137,by kernel_rfl,rfl,Tryz.ntmps137⟩
noncomputable def fp139:FnI Tryz.prog:=⟨139,Tryz.f139,48,[],[(0,⟨6,false,[0,1,2,3,4,5],[],[0,1,3,7,15,0,63],[]⟩),(1,⟨15,true,[0,2,3,4,5,11,12],[⟨1,false,false,[2,3,4,5,11,12],[]⟩,⟨6,false,false,[11,12],[7,8,9,10]⟩,⟨13,false,false,[9,10],[]⟩,⟨14,false,false,[10],[]⟩],[0,1,0,4,12,28,63,127,255,255,255,0,0,6655,15359,32767],[]⟩),(3,⟨12,false,[0,1,2,3,4,5,6,7,8,9,10],[⟨11,false,false,[7,8,9,10],[]⟩],[0,1,3,7,15,0,63,0,128,384,896,127,4095],[]⟩)],140737555472503,0,false,false,Tryz.func139,by kernel_rfl,rfl,Tryz.ntmps139⟩
noncomputable def fp140:FnI Tryz.prog:=⟨140,Tryz.f140,114,[.cell 4 184,.cell 5 97,.tmp 6],[(3,⟨5,false,[0,1,2],[⟨3,false,false,[1,2],[]⟩,⟨4,false,false,[2],[]⟩],[0,0,0,1,11,31],[]⟩),(5,⟨3,false,[0,1],[⟨2,false,false,[1],[]⟩],[0,0,1,7,15],[]⟩),(7,⟨3,false,[0,1],[⟨2,false,false,[1],[]⟩],[0,0,1,7,15],[]⟩),(13,⟨3,false,[0,1],[⟨2,false,false,[1],[]⟩],[0,0,1,7,15],[]⟩),(18,⟨3,false,[0,1],[⟨2,false,false,[1],[]⟩],[0,0,1,7,15],[]⟩),(20,⟨7,false,[0,1,2,3,4,5],[⟨6,false,false,[1,2,3,4,5],[]⟩],[0,0,2,6,14,30,1,127,255],[]⟩)],10141282173078290556491443472383,0,false,false,Tryz.func140,by kernel_rfl,rfl,Tryz.ntmps140⟩
noncomputable def fp141:FnI Tryz.prog:=⟨141,Tryz.f141,34,[.cell 2 81],[(1,⟨11,false,[0,1,2,3,4,5,6,7,8,9],[⟨10,false,false,[0,1,2,3,4,5,6,7,8,9],[]⟩],[0,1,3,7,15,0,32,96,224,511,0,2047],[]⟩)],7864365,0,false,false,Tryz.func141,by kernel_rfl,rfl,Tryz.ntmps141⟩
noncomputable def fp142:FnI Tryz.prog:=⟨142,Tryz.f142,18,[.tmp 2,.tmp 3],[],287,0,false,false,Tryz.func142,by kernel_rfl,rfl,Tryz.ntmps142⟩
noncomputable def fp143:FnI Tryz.prog:=⟨143,Tryz.f143,26,[.tmp 4],[(1,⟨16,false,[0,1,2,3,4,5,6,7,8,9,10,11,12,13,14,15],[],[0,0,2,6,14,30,0,64,192,448,960,1984,4032,8190,16382,32766,65535,131071,262143,524287,1048575,2097151],[]⟩)],19,0,false,false,Tryz.func143,by kernel_rfl,rfl,Tryz.ntmps143⟩
noncomputable def fp144:FnI Tryz.prog:=⟨144,Tryz.f144,22,[.tmp 4],[],59,0,false,false,Tryz.func144,by kernel_rfl,rfl,Tryz.ntmps144⟩
noncomputable def fp145:FnI Tryz.prog:=⟨145,Tryz.f145,19,[.tmp 4],[],66483,0,false,false,Tryz.func145,by kernel_rfl,rfl,Tryz.ntmps145⟩
noncomputable def fp146:FnI Tryz.prog:=⟨146,Tryz.f146,8,[.tmp 3],[],15,0,false,false,Tryz.func146,by kernel_rfl,rfl,Tryz.ntmps146⟩
noncomputable def fp147:FnI Tryz.prog:=⟨147,Tryz.f147,46,[.tmp 6],[],35735462218319,0,false,false,Tryz.func147,by kernel_rfl,rfl,Tryz.ntmps147⟩
noncomputable def fp148:FnI Tryz.prog:=⟨148,Tryz.f148,36,[.tmp 4],[(5,⟨16,false,[0,1,2,3,4,5,6,7,8,9,10,11,12,13,14],[⟨15,false,false,[0,1,2,3,4,5],[]⟩],[0,1,3,7,0,16,0,64,192,448,0,1024,4032,0,8192,32704,65535],[]⟩)],61623,0,false,false,Tryz.func148,by kernel_rfl,rfl,Tryz.ntmps148⟩
noncomputable def fp149:FnI Tryz.prog:=⟨149,Tryz.f149,8,[.tmp 6],[],127,0,false,false,Tryz.func149,by kernel_rfl,rfl,Tryz.ntmps149⟩
noncomputable def fp150:FnI Tryz.prog:=⟨150,Tryz.f150,73,[],[(0,⟨8,false,[0,1,2,3,4,5,6,7],[],[0,1,3,7,0,16,48,112,255,511],[]⟩),(6,⟨11,false,[0,1,2,3,4,5,6,7,8,9,10],[],[0,1,3,7,15,0,32,127,255,0,512,2047,4095,8191],[]⟩)],515412852757,0,false,false,Tryz.func150,by kernel_rfl,rfl,Tryz.ntmps150⟩
noncomputable def fp151:FnI Tryz.prog:=⟨151,Tryz.f151,59,[.tmp 4],[],31,0,false,false,Tryz.func151,by kernel_rfl,rfl,Tryz.ntmps151⟩
noncomputable def fp152:FnI Tryz.prog:=⟨152,Tryz.f152,10,[.cell 2 196,.tmp 3],[],77,0,false,false,Tryz.func152,by kernel_rfl,rfl,Tryz.ntmps152⟩
noncomputable def fp153:FnI Tryz.prog:=⟨153,Tryz.f153,87,[.tmp 2,.tmp 3,.tmp 4],[],604462909843614585585919,0,false,false,Tryz.func153,by kernel_rfl,rfl,Tryz.ntmps153⟩
noncomputable def fp154:FnI Tryz.prog:=⟨154,Tryz.f154,53,[.cell 2 48],[(12,⟨6,false,[0,1,2,3],[⟨4,false,false,[0],[5]⟩],[0,0,0,6,14,30,63,127],[]⟩),(14,⟨7,false,[0,1,2,3],[⟨4,false,false,[0],[]⟩,⟨5,false,false,[0],[6]⟩],[0,0,0,6,14,30,62,127,255],[]⟩)],9609150909,1,false,false,Tryz.func154,by kernel_rfl,rfl,Tryz.ntmps154⟩
noncomputable def fp158:FnI Tryz.prog:=⟨158,Tryz.f158,9,[],[(2,⟨4,false,[0,1,2],[⟨3,false,false,[1,2],[]⟩],[0,0,2,1,15],[]⟩)],39,0,false,false,Tryz.func158,by kernel_rfl,rfl,Tryz.ntmps158⟩
noncomputable def fp159:FnI Tryz.prog:=⟨159,Tryz.f159,99,[.cell 2 59,.cell 3 59,.cell 4 3,.cell 5 28],[(28,⟨3,false,[0,1],[⟨2,false,false,[1],[]⟩],[0,0,1,7,15,31],[]⟩)],79537648068267027298149064701,1,false,false,Tryz.func159,by kernel_rfl,rfl,Tryz.ntmps159⟩
noncomputable def fp160:FnI Tryz.prog:=⟨160,Tryz.f160,7,[.tmp 2],[],5,0,false,false,Tryz.func160,by kernel_rfl,rfl,Tryz.ntmps160⟩
noncomputable def fp161:FnI Tryz.prog:=⟨161,Tryz.f161,31,[.tmp 4],[],4147,0,false,false,Tryz.func161,by kernel_rfl,rfl,Tryz.ntmps161⟩
noncomputable def fp162:FnI Tryz.prog:=⟨162,Tryz.f162,9,[.tmp 4],[],19,0,false,false,Tryz.func162,by kernel_rfl,rfl,Tryz.ntmps162⟩
noncomputable def fp163:FnI Tryz.prog:=⟨163,Tryz.f163,14,[.tmp 3],[],15,0,false,false,Tryz.func163,by kernel_rfl,rfl,Tryz.ntmps163⟩
noncomputable def fp164:FnI Tryz.prog:=⟨164,Tryz.f164,11,[.tmp 4],[],23,0,false,false,Tryz.func164,by kernel_rfl,rfl,Tryz.ntmps164⟩
noncomputable def fp165:FnI Tryz.prog:=⟨165,Tryz.f165,5,[.tmp 2],[],7,0,false,false,Tryz.func165,by kernel_rfl,rfl,Tryz.ntmps165⟩
noncomputable def fp166:FnI Tryz.prog:=⟨166,Tryz.f166,53,[],[(1,⟨42,false,[0,1,2,3,4,5,6,7,8,9,10,11,12,13,14,15,16,17,18,19,20,21,22,23,24,25,26,27,28,29,30,31,32,33,34,35,36],[⟨37,false,false,[1,2,23,30,31,32,33],[38,39,40]⟩,⟨41,false,false,[2,33],[]⟩],[0,0,0,0,8,24,56,120,0,0,512,1536,3584,7680,15872,32512,65528,131064,0,262144,786432,1835008,3932160,0,0,16777216,50331648,117440512,251658240,520093696,1065353216,2147221504,4294705152,0,1065353209,18245222393,52604960761,121324437497,266287972347,541165879291,1090921693179,2190433320955,4398046511103,8796093022207,17592186044415],[]⟩)],19,0,false,false,Tryz.func166,by kernel_rfl,rfl,Tryz.ntmps166⟩
noncomputable def fp167:FnI Tryz.prog:=⟨167,Tryz.f167,28,[.cell 6 43],[],32967,0,false,false,Tryz.func167,by kernel_rfl,rfl,Tryz.ntmps167⟩
noncomputable def fp168:FnI Tryz.prog:=⟨168,Tryz.f168,33,[.tmp 6],[(5,⟨9,false,[0,1,2,3,4,5,6,7,8],[],[0,1,3,7,0,0,48,0,240,511,1023,2047],[]⟩)],32975,0,false,false,Tryz.func168,by kernel_rfl,rfl,Tryz.ntmps168⟩
noncomputable def fp178:FnI Tryz.prog:=⟨178,Tryz.f178,8,[.tmp 4],[],23,0,false,false,Tryz.func178,by kernel_rfl,rfl,Tryz.ntmps178⟩
noncomputable def fp179:FnI Tryz.prog:=⟨179,Tryz.f179,8,[.tmp 2],[],21,0,true,false,Tryz.func179,by kernel_rfl,rfl,Tryz.ntmps179⟩
noncomputable def fp180:FnI Tryz.prog:=⟨180,Tryz.f180,48,[],[],4398113620251,0,false,false,Tryz.func180,by kernel_rfl,rfl,Tryz.ntmps180⟩
noncomputable def fp181:FnI Tryz.prog:=⟨181,Tryz.f181,33,[.tmp 2],[],5,0,false,false,Tryz.func181,by kernel_rfl,rfl,Tryz.ntmps181⟩
noncomputable def fp182:FnI Tryz.prog:=⟨182,Tryz.f182,24,[],[],4105,0,false,false,Tryz.func182,by kernel_rfl,rfl,Tryz.ntmps182⟩
noncomputable def fp183:FnI Tryz.prog:=⟨183,Tryz.f183,34,[.tmp 4,.tmp 5],[(4,⟨15,false,[0,1,2,3,4,5,6,7,8,9,10,11,12,13],[⟨14,false,false,[1,11],[]⟩],[0,0,0,4,12,28,60,0,128,384,896,1920,2045,6141,14333,32767,65535,131071],[(0,2),(0,3)]⟩)],65651,0,false,false,Tryz.func183,by kernel_rfl,rfl,Tryz.ntmps183⟩
noncomputable def fp184:FnI Tryz.prog:=⟨184,Tryz.f184,16,[],[(1,⟨9,false,[0,1,2,3,4,5,6,7],[⟨8,false,false,[0],[]⟩],[0,0,2,6,14,30,0,64,254,511,1023,2047,4095],[]⟩)],11,0,false,false,Tryz.func184,by kernel_rfl,rfl,Tryz.ntmps184⟩
noncomputable def fp185:FnI Tryz.prog:=⟨185,Tryz.f185,15,[.tmp 6],[],71,0,false,false,Tryz.func185,by kernel_rfl,rfl,Tryz.ntmps185⟩
noncomputable def fp186:FnI Tryz.prog:=⟨186,Tryz.f186,13,[.cell 2 236],[],311,0,false,false,Tryz.func186,by kernel_rfl,rfl,Tryz.ntmps186⟩
noncomputable def fp187:FnI Tryz.prog:=⟨187,Tryz.f187,15,[.cell 0 315],[],27,0,false,false,Tryz.func187,by kernel_rfl,rfl,Tryz.ntmps187⟩
noncomputable def fp188:FnI Tryz.prog:=⟨188,Tryz.f188,17,[.tmp 2,.tmp 3],[(3,⟨10,false,[0,1,2,3,5,6,8,9],[⟨4,false,false,[5,6,8,9],[]⟩,⟨7,false,false,[8,9],[]⟩],[0,1,0,4,15,0,32,127,0,256,1023,2047,4095],[]⟩)],47,0,false,false,Tryz.func188,by kernel_rfl,rfl,Tryz.ntmps188⟩
noncomputable def fp190:FnI Tryz.prog:=⟨190,Tryz.f190,11,[.tmp 4,.tmp 5],[],59,0,false,false,Tryz.func190,by kernel_rfl,rfl,Tryz.ntmps190⟩
noncomputable def fp191:FnI Tryz.prog:=⟨191,Tryz.f191,44,[.tmp 2],[],2290089999,0,false,false,Tryz.func191,by kernel_rfl,rfl,Tryz.ntmps191⟩
noncomputable def fp192:FnI Tryz.prog:=⟨192,Tryz.f192,12,[.tmp 3],[],11,0,false,false,Tryz.func192,by kernel_rfl,rfl,Tryz.ntmps192⟩
noncomputable def fp193:FnI Tryz.prog:=⟨193,Tryz.f193,19,[.tmp 4],[],66483,0,false,false,Tryz.func193,by kernel_rfl,rfl,Tryz.ntmps193⟩
noncomputable def fp194:FnI Tryz.prog:=⟨194,Tryz.f194,19,[.tmp 8],[],4383,0,false,false,Tryz.func194,by kernel_rfl,rfl,Tryz.ntmps194⟩
noncomputable def fp197:FnI Tryz.prog:=⟨197,Tryz.f197,8,[.tmp 2],[],7,0,false,false,Tryz.func197,by kernel_rfl,rfl,Tryz.ntmps197⟩
noncomputable def fp198:FnI Tryz.prog:=⟨198,Tryz.f198,8,[.tmp 2],[],21,0,true,false,Tryz.func198,by kernel_rfl,rfl,Tryz.ntmps198⟩
noncomputable def fp199:FnI Tryz.prog:=⟨199,Tryz.f199,9,[.tmp 2],[],5,0,false,false,Tryz.func199,by kernel_rfl,rfl,Tryz.ntmps199⟩
noncomputable def fp200:FnI Tryz.prog:=⟨200,Tryz.f200,33,[.cell 2 184],[],4309101,0,false,false,Tryz.func200,by kernel_rfl,rfl,Tryz.ntmps200⟩
noncomputable def fp201:FnI Tryz.prog:=⟨201,Tryz.f201,19,[.tmp 4],[],66483,0,false,false,Tryz.func201,by kernel_rfl,rfl,Tryz.ntmps201⟩
noncomputable def fp202:FnI Tryz.prog:=⟨202,Tryz.f202,8,[.tmp 3],[],15,0,false,false,Tryz.func202,by kernel_rfl,rfl,Tryz.ntmps202⟩
noncomputable def fp203:FnI Tryz.prog:=⟨203,Tryz.f203,15,[.tmp 6],[],71,0,false,false,Tryz.func203,by kernel_rfl,rfl,Tryz.ntmps203⟩
noncomputable def fp204:FnI Tryz.prog:=⟨204,Tryz.f204,37,[],[(2,⟨5,false,[0,1,2,3,4],[],[0,1,3,7,0,31],[]⟩),(5,⟨9,false,[0,1,2,3,4,5,6,7,8],[],[0,0,0,0,8,24,56,124,254,511],[]⟩)],68719509743,0,false,false,Tryz.func204,by kernel_rfl,rfl,Tryz.ntmps204⟩
noncomputable def fp205:FnI Tryz.prog:=⟨205,Tryz.f205,12,[.tmp 4],[],243,0,false,false,Tryz.func205,by kernel_rfl,rfl,Tryz.ntmps205⟩
noncomputable def fp206:FnI Tryz.prog:=⟨206,Tryz.f206,26,[.tmp 4],[(6,⟨8,false,[0,1,2,3,4,5,6,7],[],[0,0,3,7,0,0,48,112,255],[]⟩)],16806963,0,false,false,Tryz.func206,by kernel_rfl,rfl,Tryz.ntmps206⟩
noncomputable def fp207:FnI Tryz.prog:=⟨207,Tryz.f207,23,[.cell 2 196],[],5,0,false,false,Tryz.func207,by kernel_rfl,rfl,Tryz.ntmps207⟩
noncomputable def fp208:FnI Tryz.prog:=⟨208,Tryz.f208,6,[.tmp 2],[],5,0,false,false,Tryz.func208,by kernel_rfl,rfl,Tryz.ntmps208⟩
noncomputable def fp209:FnI Tryz.prog:=⟨209,Tryz.f209,9,[.tmp 4],[],95,0,false,true,Tryz.func209,by kernel_rfl,rfl,Tryz.ntmps209⟩
noncomputable def fp210:FnI Tryz.prog:=⟨210,Tryz.f210,14,[.tmp 2],[],1037,0,false,false,Tryz.func210,by kernel_rfl,rfl,Tryz.ntmps210⟩
noncomputable def fp211:FnI Tryz.prog:=⟨211,Tryz.f211,13,[.tmp 2],[],525,0,false,false,Tryz.func211,by kernel_rfl,rfl,Tryz.ntmps211⟩
noncomputable def fp212:FnI Tryz.prog:=⟨212,Tryz.f212,17,[.tmp 2],[],501,0,false,false,Tryz.func212,by kernel_rfl,rfl,Tryz.ntmps212⟩
noncomputable def fp214:FnI Tryz.prog:=⟨214,Tryz.f214,25,[.tmp 2],[],32925,0,false,false,Tryz.func214,by kernel_rfl,rfl,Tryz.ntmps214⟩
noncomputable def fp215:FnI Tryz.prog:=⟨215,Tryz.f215,8,[.tmp 2],[],21,0,false,false,Tryz.func215,by kernel_rfl,rfl,Tryz.ntmps215⟩
noncomputable def fp216:FnI Tryz.prog:=⟨216,Tryz.f216,4,[.tmp 2],[],7,0,false,false,Tryz.func216,by kernel_rfl,rfl,Tryz.ntmps216⟩
noncomputable def fp217:FnI Tryz.prog:=⟨217,Tryz.f217,45,[.tmp 2,.tmp 3],[],9681111037,0,false,false,Tryz.func217,by kernel_rfl,rfl,Tryz.ntmps217⟩
noncomputable def fp218:FnI Tryz.prog:=⟨218,Tryz.f218,9,[.tmp 4],[],95,0,false,true,Tryz.func218,by kernel_rfl,rfl,Tryz.ntmps218⟩
noncomputable def fp219:FnI Tryz.prog:=⟨219,Tryz.f219,4,[.tmp 2],[],7,0,false,false,Tryz.func219,by kernel_rfl,rfl,Tryz.ntmps219⟩
noncomputable def fp220:FnI Tryz.prog:=⟨220,Tryz.f220,26,[.tmp 4],[(6,⟨8,false,[0,1,2,3,4,5,6,7],[],[0,0,3,7,0,0,48,112,255],[]⟩)],16806963,0,false,false,Tryz.func220,by kernel_rfl,rfl,Tryz.ntmps220⟩
noncomputable def fp221:FnI Tryz.prog:=⟨221,Tryz.f221,19,[.tmp 4],[],66483,0,false,false,Tryz.func221,by kernel_rfl,rfl,Tryz.ntmps221⟩
noncomputable def fp222:FnI Tryz.prog:=⟨222,Tryz.f222,8,[.tmp 2],[],21,0,false,false,Tryz.func222,by kernel_rfl,rfl,Tryz.ntmps222⟩
noncomputable def fp223:FnI Tryz.prog:=⟨223,Tryz.f223,9,[],[],3,0,false,false,Tryz.func223,by kernel_rfl,rfl,Tryz.ntmps223⟩
noncomputable def fp224:FnI Tryz.prog:=⟨224,Tryz.f224,15,[.tmp 5],[(1,⟨7,false,[0,1,2,4,5,6],[⟨3,false,false,[4,5,6],[]⟩],[0,1,0,7,0,16,0,127,255,511],[]⟩)],63,0,false,false,Tryz.func224,by kernel_rfl,rfl,Tryz.ntmps224⟩
noncomputable def fp233:FnI Tryz.prog:=⟨233,Tryz.f233,11,[.tmp 3],[],11,0,false,false,Tryz.func233,by kernel_rfl,rfl,Tryz.ntmps233⟩
noncomputable def fp234:FnI Tryz.prog:=⟨234,Tryz.f234,76,[],[],4611688218524393593,0,false,false,Tryz.func234,by kernel_rfl,rfl,Tryz.ntmps234⟩
noncomputable def fp235:FnI Tryz.prog:=⟨235,Tryz.f235,17,[.tmp 2],[],7,0,false,false,Tryz.func235,by kernel_rfl,rfl,Tryz.ntmps235⟩
noncomputable def fp236:FnI Tryz.prog:=⟨236,Tryz.f236,9,[.tmp 4],[],19,0,false,false,Tryz.func236,by kernel_rfl,rfl,Tryz.ntmps236⟩
noncomputable def fp237:FnI Tryz.prog:=⟨237,Tryz.f237,13,[.tmp 4,.tmp 5],[],115,0,false,false,Tryz.func237,by kernel_rfl,rfl,Tryz.ntmps237⟩
noncomputable def fp238:FnI Tryz.prog:=⟨238,Tryz.f238,8,[.tmp 3],[],15,0,false,false,Tryz.func238,by kernel_rfl,rfl,Tryz.ntmps238⟩
noncomputable def fp239:FnI Tryz.prog:=⟨239,Tryz.f239,5,[.tmp 2],[],5,0,false,false,Tryz.func239,by kernel_rfl,rfl,Tryz.ntmps239⟩
noncomputable def fp240:FnI Tryz.prog:=⟨240,Tryz.f240,5,[.tmp 2],[],5,0,false,false,Tryz.func240,by kernel_rfl,rfl,Tryz.ntmps240⟩
noncomputable def fp241:FnI Tryz.prog:=⟨241,Tryz.f241,10,[.tmp 3],[],11,0,false,false,Tryz.func241,by kernel_rfl,rfl,Tryz.ntmps241⟩
noncomputable def fp247:FnI Tryz.prog:=⟨247,Tryz.f247,9,[.tmp 4],[],19,0,false,false,Tryz.func247,by kernel_rfl,rfl,Tryz.ntmps247⟩
noncomputable def fp248:FnI Tryz.prog:=⟨248,Tryz.f248,6,[.tmp 2],[],7,0,false,false,Tryz.func248,by kernel_rfl,rfl,Tryz.ntmps248⟩
noncomputable def fp249:FnI Tryz.prog:=⟨249,Tryz.f249,45,[.cell 2 184],[(4,⟨14,false,[0,1,2,3,4,5,6,7,8,9,10,11,12,13],[],[0,1,3,7,15,31,0,64,0,256,0,1024,3840,7936,16383,32767],[]⟩),(5,⟨11,false,[0,1,2,3,4,5,6,7,8,9,10],[],[0,1,3,7,15,31,0,64,0,256,960,2047,4095],[]⟩)],1073749525,0,false,false,Tryz.func249,by kernel_rfl,rfl,Tryz.ntmps249⟩
noncomputable def fp250:FnI Tryz.prog:=⟨250,Tryz.f250,72,[.cell 2 184],[],281475529318909,0,false,false,Tryz.func250,by kernel_rfl,rfl,Tryz.ntmps250⟩
noncomputable def fp251:FnI Tryz.prog:=⟨251,Tryz.f251,151,[.cell 2 184],[(2,⟨20,true,[0,1,2,3,4,5,6,7,8,9,10,11,12,13,14,15,16,17,18],[⟨19,false,false,[8,9,10,11,12,13,14,15,16],[]⟩],[0,1,3,7,15,0,63,127,0,256,768,1792,3840,7936,0,32512,65280,0,0,393471,1048575],[]⟩),(3,⟨4,false,[0,2,3],[⟨1,false,false,[2,3],[]⟩],[0,1,0,4,15,31],[]⟩),(5,⟨22,false,[0,1,2,3,4,5,6,7,8,9,10,11,12,13,14,15,16,17,18,19,20,21],[],[0,0,2,6,14,30,62,0,128,384,896,1920,3968,0,8192,24576,57344,122880,253952,524160,0,2097024,4194303,8388607],[]⟩),(9,⟨8,false,[0,1,2,3,4,5,6,7],[],[0,1,0,4,12,28,60,124,255,511,1023],[]⟩),(16,⟨19,false,[0,1,2,3,4,5,6,7,8,9,10,11,12,13,14,15,16,17],[⟨18,false,false,[4,5,6,7,8,9,10,11,12,13,14,15,16],[]⟩],[0,1,0,4,0,16,0,64,240,0,512,1536,3584,7680,15872,32752,65532,15,131087,524287,1048575],[]⟩),(17,⟨8,false,[0,1,2,3,4,5,6,7],[],[0,1,3,7,15,31,0,0,255,511],[]⟩)],166153539089613592884373937656432623,0,false,false,Tryz.func251,by kernel_rfl,rfl,Tryz.ntmps251⟩
noncomputable def fp252:FnI Tryz.prog:=⟨252,Tryz.f252,8,[.tmp 2,.tmp 3],[],13,0,false,false,Tryz.func252,by kernel_rfl,rfl,Tryz.ntmps252⟩
noncomputable def fp253:FnI Tryz.prog:=⟨253,Tryz.f253,31,[],[(3,⟨5,false,[0,1,2,3,4],[],[0,0,0,6,14,31,63],[(1,0)]⟩)],1073742391,0,false,false,Tryz.func253,by kernel_rfl,rfl,Tryz.ntmps253⟩
noncomputable def fp254:FnI Tryz.prog:=⟨254,Tryz.f254,6,[.tmp 2],[],5,0,false,false,Tryz.func254,by kernel_rfl,rfl,Tryz.ntmps254⟩
noncomputable def fp265:FnI Tryz.prog:=⟨265,Tryz.f265,21,[],[],1048715,0,false,false,Tryz.func265,by kernel_rfl,rfl,Tryz.ntmps265⟩
noncomputable def fp266:FnI Tryz.prog:=⟨266,Tryz.f266,31,[],[(3,⟨5,false,[0,1,2,3,4],[],[0,0,0,6,14,31,63],[(1,0)]⟩)],1073742391,0,false,false,Tryz.func266,by kernel_rfl,rfl,Tryz.ntmps266⟩
noncomputable def fp267:FnI Tryz.prog:=⟨267,Tryz.f267,19,[],[],262411,0,false,false,Tryz.func267,by kernel_rfl,rfl,Tryz.ntmps267⟩
noncomputable def fp268:FnI Tryz.prog:=⟨268,Tryz.f268,63,[],[],18014433942971335,0,false,false,Tryz.func268,by kernel_rfl,rfl,Tryz.ntmps268⟩
noncomputable def fp274:FnI Tryz.prog:=⟨274,Tryz.f274,22,[],[],16419,0,false,false,Tryz.func274,by kernel_rfl,rfl,Tryz.ntmps274⟩
noncomputable def fp275:FnI Tryz.prog:=⟨275,Tryz.f275,48,[.cell 2 236,.tmp 3],[(4,⟨28,false,[0,1,2,3,4,5,6,7,8],[⟨9,false,false,[0],[10,11,12,13,14,15,16,17,18,19,20,21,22,23,24,25,26]⟩,⟨27,false,false,[22,23,24,25,26],[]⟩],[0,0,2,6,14,30,62,126,254,510,1022,2046,4094,8190,16382,32766,65534,131070,262142,524286,1048574,2097150,4194302,8388606,16777214,33554430,67108862,4194303,268435455],[]⟩)],125,0,false,false,Tryz.func275,by kernel_rfl,rfl,Tryz.ntmps275⟩
noncomputable def fp276:FnI Tryz.prog:=⟨276,Tryz.f276,19,[.tmp 4],[],66483,0,false,false,Tryz.func276,by kernel_rfl,rfl,Tryz.ntmps276⟩
noncomputable def fp280:FnI Tryz.prog:=⟨280,Tryz.f280,19,[.tmp 4],[],66483,0,false,false,Tryz.func280,by kernel_rfl,rfl,Tryz.ntmps280⟩
noncomputable def fp281:FnI Tryz.prog:=⟨281,Tryz.f281,44,[.tmp 2],[(4,⟨19,false,[0,1,2,3,4,5,6,7,8,9,10,11,12,13,14,15,16,17,18],[],[0,1,3,7,15,31,63,127,255,15,1023,2047,4095,15,8207,24591,57359,122895,253967,524287,1048575],[]⟩)],137438968861,0,false,false,Tryz.func281,by kernel_rfl,rfl,Tryz.ntmps281⟩
noncomputable def fp282:FnI Tryz.prog:=⟨282,Tryz.f282,33,[.tmp 2,.tmp 3],[],30813,0,false,false,Tryz.func282,by kernel_rfl,rfl,Tryz.ntmps282⟩
noncomputable def fp283:FnI Tryz.prog:=⟨283,Tryz.f283,32,[.tmp 4,.tmp 5],[],1130227,0,false,false,Tryz.func283,by kernel_rfl,rfl,Tryz.ntmps283⟩
noncomputable def fp284:FnI Tryz.prog:=⟨284,Tryz.f284,13,[.tmp 4,.tmp 5],[],307,0,false,false,Tryz.func284,by kernel_rfl,rfl,Tryz.ntmps284⟩
noncomputable def fp285:FnI Tryz.prog:=⟨285,Tryz.f285,22,[.tmp 5],[(1,⟨8,true,[0,1,3,4,6,7],[⟨2,false,false,[3,4,6,7],[]⟩,⟨5,false,false,[6,7],[]⟩],[0,0,3,0,0,31,0,0,255,511],[]⟩),(2,⟨6,false,[0,1,3,4,5],[⟨2,false,false,[3,4,5],[]⟩],[0,0,3,0,0,24,63,127,255],[(6,0),(7,0)]⟩)],231,0,false,false,Tryz.func285,by kernel_rfl,rfl,Tryz.ntmps285⟩
noncomputable def fp286:FnI Tryz.prog:=⟨286,Tryz.f286,49,[.cell 4 417],[(2,⟨15,false,[0,1,2,3,4,5,6,7,8,9,10,11,12,13,14],[],[0,1,3,7,15,31,0,64,255,0,512,1536,3584,7680,15872,32767],[]⟩),(4,⟨14,false,[0,1,2,3,4,5,6,7,8,9,10,11,12,13],[],[0,1,3,7,15,0,63,127,255,0,512,2047,0,4096,16383,32767],[]⟩)],1073741875,0,false,false,Tryz.func286,by kernel_rfl,rfl,Tryz.ntmps286⟩
noncomputable def fp287:FnI Tryz.prog:=⟨287,Tryz.f287,18,[.tmp 2],[],17389,0,false,false,Tryz.func287,by kernel_rfl,rfl,Tryz.ntmps287⟩
noncomputable def fp288:FnI Tryz.prog:=⟨288,Tryz.f288,36,[.tmp 4],[],34628706291,0,false,false,Tryz.func288,by kernel_rfl,rfl,Tryz.ntmps288⟩
noncomputable def fp291:FnI Tryz.prog:=⟨291,Tryz.f291,53,[],[(4,⟨14,false,[0,1,2,3,4,5,6,7,8,9,10,11,12,13],[],[0,0,3,7,15,15,15,111,239,15,15,1039,3599,7695,16383,32767,65535],[]⟩),(6,⟨16,false,[0,1,2,3,4,5,6,7,8,9,10,11,12,13,14],[⟨15,false,false,[2,3,4],[]⟩],[0,0,0,0,8,0,0,64,224,480,0,0,3072,7168,16355,32739,65535,131071],[]⟩)],17179886351,0,false,false,Tryz.func291,by kernel_rfl,rfl,Tryz.ntmps291⟩
noncomputable def fp292:FnI Tryz.prog:=⟨292,Tryz.f292,220,[],[(5,⟨9,false,[0,1,2,3,4,5,6,7,8],[],[0,0,0,6,14,0,0,96,224,511,1023],[]⟩),(11,⟨16,false,[0,1,2,3,4,5,6,7,8,9,10,11,12,13,14],[⟨15,false,false,[2,3,4],[]⟩],[0,0,0,0,8,0,0,64,224,480,0,0,3072,7168,16355,32739,65535,131071],[]⟩),(17,⟨9,false,[0,1,2,3,4,5,6,7,8],[],[0,0,0,6,14,0,0,96,224,511,1023,2047],[]⟩),(23,⟨16,false,[0,1,2,3,4,5,6,7,8,9,10,11,12,13,14],[⟨15,false,false,[2,3,4],[]⟩],[0,0,0,0,8,0,0,64,224,480,0,0,3072,7168,16355,32739,65535,131071],[]⟩),(35,⟨11,false,[0,1,2,3,4,5,6,7,8,9,10],[],[0,0,0,0,12,30,62,0,0,384,896,2047,4095,8191],[]⟩)],13164839976634628298295110780136696778032692856359452003713154079,0,false,false,Tryz.func292,by kernel_rfl,rfl,Tryz.ntmps292⟩
noncomputable def fp298:FnI Tryz.prog:=⟨298,Tryz.f298,33,[.tmp 4],[],134349427,0,false,false,Tryz.func298,by kernel_rfl,rfl,Tryz.ntmps298⟩
noncomputable def fp299:FnI Tryz.prog:=⟨299,Tryz.f299,20,[.tmp 4],[],604275,0,false,false,Tryz.func299,by kernel_rfl,rfl,Tryz.ntmps299⟩
noncomputable def fp301:FnI Tryz.prog:=⟨301,Tryz.f301,58,[],[],9440287,0,false,false,Tryz.func301,by kernel_rfl,rfl,Tryz.ntmps301⟩
noncomputable def fp303:FnI Tryz.prog:=⟨303,Tryz.f303,6,[.tmp 2],[],5,0,false,false,Tryz.func303,by kernel_rfl,rfl,Tryz.ntmps303⟩
noncomputable def fp305:FnI Tryz.prog:=⟨305,Tryz.f305,38,[],[(3,⟨22,false,[0,1,2,3,4,5,6,7,8,9,10,11,12,13,14,15,16,17,18,19,20],[⟨21,false,false,[4,5,6,7],[]⟩],[0,0,0,6,0,0,0,96,0,0,0,1536,3840,7936,0,0,0,98304,245760,507904,1048335,2096911,4194303,8388607],[]⟩)],9247,0,false,false,Tryz.func305,by kernel_rfl,rfl,Tryz.ntmps305⟩
noncomputable def fns:List (FnI Tryz.prog):=[fp4,fp7,fp9,fp10,fp11,fp12,fp13,fp14,fp19,fp21,fp24,fp25,fp26,fp27,fp28,fp33,fp34,fp35,fp36,fp38,fp39,fp40,fp41,fp42,fp45,fp46,fp47,fp48,fp49,fp50,fp53,fp54,fp55,fp56,fp57,fp59,fp60,fp61,fp62,fp63,fp64,fp65,fp66,fp67,fp68,fp69,fp70,fp71,fp72,fp73,fp76,fp77,fp81,fp82,fp83,fp84,fp85,fp86,fp87,fp88,fp89,fp90,fp91,fp92,fp93,fp94,fp95,fp96,fp97,fp98,fp99,fp100,fp101,fp102,fp103,fp104,fp106,fp107,fp108,fp109,fp112,fp118,fp119,fp120,fp121,fp122,fp123,fp124,fp125,fp126,fp127,fp128,fp129,fp130,fp131,fp132,fp133,fp134,fp135,fp136,fp137,fp139,fp140,fp141,fp142,fp143,fp144,fp145,fp146,fp147,fp148,fp149,fp150,fp151,fp152,fp153,fp154,fp158,fp159,fp160,fp161,fp162,fp163,fp164,fp165,fp166,fp167,fp168,fp178,fp179,fp180,fp181,fp182,fp183,fp184,fp185,fp186,fp187,fp188,fp190,fp191,fp192,fp193,fp194,fp197,fp198,fp199,fp200,fp201,fp202,fp203,fp204,fp205,fp206,fp207,fp208,fp209,fp210,fp211,fp212,fp214,fp215,fp216,fp217,fp218,fp219,fp220,fp221,fp222,fp223,fp224,fp233,fp234,fp235,fp236,fp237,fp238,fp239,fp240,fp241,fp247,fp248,fp249,fp250,fp251,fp252,fp253,fp254,fp265,fp266,fp267,fp268,fp274,fp275,fp276,fp280,fp281,fp282,fp283,fp284,fp285,fp286,fp287,fp288,fp291,fp292,fp298,fp299,fp301,fp303,fp305]
end Go.Proofs.YtidkoikjdghlmaaGreatDoor
namespace Go.Proofs.YtidkoikjdghlmaaGreatDoor
open Go Go.QL Go.RowKit Go.Shelf FoT
set_option maxHeartbeats 1600000
set_option maxRecDepth 20000
attribute [local irreducible] ACall FnC
def zoi:Go.Shelf.Ren:=⟨fun|4=>189|n=>n,fun|0=>0|3=>3|4=>4|9=>9|20=>20|22=>59|25=>3|n=>n,fun n=>n⟩
theorem zmD:Go.Proofs.Lays8.n4 Tryz.prog zoi:={
 mixed:=by kernel_rfl
 f4:=⟨Tryz.f189.name,by kernel_rfl,Tryz.func189.trans (congrArg some (by kernel_rfl))⟩
 t0:=Tryz.underlying0
 a0:=Tryz.isAgg0
 z0:=Tryz.sizeOf0
 v0:=Tryz.zeroValue0
 t3:=Tryz.underlying3
 a3:=Tryz.isAgg3
 z3:=Tryz.sizeOf3
 v3:=Tryz.zeroValue3
 t4:=Tryz.underlying4
 a4:=Tryz.isAgg4
 z4:=Tryz.sizeOf4
 v4:=Tryz.zeroValue4
 t9:=Tryz.underlying9
 a9:=Tryz.isAgg9
 z9:=Tryz.sizeOf9
 v9:=Tryz.zeroValue9
 t20:=Tryz.underlying20
 a20:=Tryz.isAgg20
 z20:=Tryz.sizeOf20
 v20:=Tryz.zeroValue20
 t22:=Tryz.underlying59
 a22:=Tryz.isAgg59
 z22:=Tryz.sizeOf59
 v22:=Tryz.zeroValue59 }
theorem zqa (n:Nat) (h0:0 < n) (hn:n≤100000):ACall Tryz.prog 189 [.x (.d (.v (.slice none 0 0))),iv .i64 n] [] (fun r σ'=>r=.x (.o 50 0 0)∧σ'=[(50,.chain 3 1 0 [])]):=by
 unfold ACall;refine⟨⟨_,Tryz.func189,rfl,rfl⟩,fun w0 K0 g w vs hL hp hs' hv=>?_⟩
 obtain⟨u,v,rfl⟩:∃ u v,vs = #[u,v]:=by
  match vs,hs' with
  | ⟨[u,v]⟩,_=>exact⟨u,v,rfl⟩
 have h2:=zm (hv 0 (.x (.d (.v (.slice none 0 0)))) u rfl rfl);have h3:=zm (hv 1 (iv .i64 n) v rfl rfl);subst h2;subst h3;obtain⟨info,z,i1,i2,i3,i4,i5⟩:=(hTt 3 _ rfl).info;have hsz:info.size=1:=i2;have hby:info.bytes=8:=i3;have hzl:z.cells.size=1:=by rw [i5];rfl
 refine (show Calls Tryz.prog 189 #[.slice none 0 0,.int .i64 n] w _ from Any8.slices_Grow_grow zmD info z i1 i4 (by omega) none 0 0 n [] w (by omega) (by omega) (by rw [hby];omega) (by omega) (by simp) (fun _=>rfl) (fun a h=>by cases h)).mono ?_
 rintro e w' ⟨rfl,rfl⟩;have hd1:=hp.grow (w':=w.drew) (K':=g.K) (Below.refl w.heap.size w).drew ⟨fun _ _ h=>h,fun b o hk=>rfl⟩ (fun _ _ _ h=>h) (fun b o hk=>hp.val b o hk);have hcap:grownCap w (0+n) 0 3≤maxLen:=grownCap_le_maxLen w (0+n) 0 3 (by unfold maxLen;omega);have hge:0+n≤grownCap w (0+n) 0 3:=grownCap_ge w _ _ _;have hge2:=hge;rw [Nat.zero_add] at hge2;have hd2:=hd1.hp.addChain 50 rfl 3 1 (grownCap w (0+n) 0 3) [] (([]:List Value).toArray ++ Builtin.zeroCells z.cells (0+n - 0) ++ Builtin.zeroCells z.cells (grownCap w (0+n) 0 3 - (0+n))) (by simp) hcap
  (by simp [Builtin.zeroCells,hzl];omega) (by simp) (fun i x h=>by simp at h)
 refine⟨_,_,_,_,rfl,hd1.trans hd2,?_,rfl,rfl⟩
 refine .o 50 0 0 3 1 [] _ _ rfl (Nat.le_refl _) ?_
 dsimp only;rw [zy];rfl
def growH:CallH:=fun f args σ kb=>bif Nat.beq f 189 then (match args with
 | [.x (.d (.v (.slice none 0 0))),.x (.d (.v (.int .i64 n)))]=>decide (0 < n∧n≤100000) && kb (.x (.o (zaZ σ) 0 0)) ((zaZ σ,.chain 3 1 0 []) :: σ)
 | _=>false) else false
theorem dropK0:∀ σ:Sg,ziI [] σ=σ
 | []=>rfl
 | x::r=>by simp [ziI,dropK0 r]
theorem growH_ok:CallOK Tryz.prog growH:=by
 intro f args σ kb h;unfold growH at h;cases hb:Nat.beq f 189 with
 | false=>rw [hb] at h;cases h
 | true=>
  rw [hb] at h;simp only [cond_true] at h;obtain rfl:=Nat.eq_of_beq_eq_true hb;split at h
  ·rename_i n;rw [Bool.and_eq_true] at h;obtain⟨h1,h2⟩:=h;have h1:=of_decide_eq_true h1;have hg:=zqa n.toNat (by omega) (by omega);rw [show ((n.toNat:Nat):Int)=n from Int.toNat_of_nonneg (by omega)] at hg;have hf:=hg.frame (fun i=>if i=50 then zaZ σ else i) (σ:=σ) trivial rfl (by
    rintro _ _ ⟨rfl,rfl⟩;simp only [zdN,List.map_cons,List.map_nil,List.all_nil,Bool.true_and,Bool.and_true,List.all_cons,List.any_nil,Bool.false_or,Bool.and_eq_true,Bool.not_eq_true',if_true];refine⟨rfl,?_⟩
    rw [List.any_eq_false];intro a ha e;obtain⟨x,hx,rfl⟩:=List.mem_map.1 ha;exact (lkN (L:=σ) (l0:=[]) (by rw [List.append_nil];exact zhx σ)).1 x hx (Nat.eq_of_beq_eq_true e).symm)
   refine hf.mono ?_
   rintro r σ' ⟨_,_,⟨rfl,rfl⟩,rfl,rfl⟩;have e:after (fun i=>if i=50 then zaZ σ else i) [] [(50,Ob.chain 3 1 0 [])] σ=(zaZ σ,.chain 3 1 0 []) :: σ:=by
    show (zaZ σ,Ob.chain 3 1 0 [])::ziI [] σ=_
    rw [dropK0]
   rw [e];exact h2
  ·cases h
end Go.Proofs.YtidkoikjdghlmaaGreatDoor
namespace Go.Proofs.YtidkoikjdghlmaaGreatDoor
open Go Go.QL
set_option maxRecDepth 1000000
def u (n:Int):List PV:=[.v (.int .u8 n)]
def i (n:Int):List PV:=[.v (.int .i64 n)]
def I (n:Int):SV:=.d (.v (.int .i64 n))
def ccT (T:Nat):Bool:=Nat.beq T 3 || Nat.beq T 9 || Nat.beq T 28
theorem ccT_ok:∀ T,ccT T=true→zhH Tryz.prog T:=by
 intro T h;unfold ccT at h;simp only [Bool.or_eq_true] at h;rcases h with (h|h)|h
 ·rw [Nat.eq_of_beq_eq_true h];exact⟨_,Tryz.underlying3,rfl⟩
 ·rw [Nat.eq_of_beq_eq_true h];exact⟨_,Tryz.underlying9,rfl⟩
 ·rw [Nat.eq_of_beq_eq_true h];exact⟨_,Tryz.underlying28,rfl⟩
abbrev noT:Nat→Bool:=fun _=>false
def leSV (s t:SV):Bool:=eqAV (.x s) (.x t) || (match s,t with|.d (.v (.slice none 0 0)),.d (.s _ [])=>true|_,_=>false)
def leL:List SV→List SV→Bool
 | [],[]=>true
 | x::r,y::s=>leSV x y && leL r s
 | _,_=>false
def le1:AV→AV→Bool
 | .x s,.x t=>leSV s t
 | .a cs,.a ds=>leL cs ds
 | _,_=>false
def leAs:List AV→List AV→Bool
 | [],[]=>true
 | x::r,y::s=>le1 x y && leAs r s
 | _,_=>false
def leAV:AV→AV→Bool
 | .t xs,.t ys=>leAs xs ys
 | x,y=>le1 x y
section
variable {σ:Sg} {g:Gh} {w:World}
theorem leSV_ok {s t:SV} (h:leSV s t=true) {v:Value} (hv:SR σ g w s v):SR σ g w t v:=by
 unfold leSV at h;rw [Bool.or_eq_true] at h;rcases h with h|h
 ·cases eqAV_ok h;exact hv
 ·split at h
  ·exact LeSV.ok (.inr ⟨rfl,_,rfl⟩) hv
  ·cases h
theorem leL_ok:∀ {xs ys:List SV},leL xs ys=true→xs.length=ys.length∧∀ (i:Nat) (y:SV),ys[i]?=some y→∃ x,xs[i]?=some x∧leSV x y=true
 | [],[],_=>⟨rfl,fun i y h=>by simp at h⟩
 | x::r,y::s,h=>by
  unfold leL at h;rw [Bool.and_eq_true] at h;obtain⟨e,ih⟩:=leL_ok h.2;refine⟨by simp [e],fun i z hi=>?_⟩
  cases i with
  | zero=>cases hi;exact⟨x,rfl,h.1⟩
  | succ i=>exact ih i z hi
 | [],_::_,h=>by cases h
 | _::_,[],h=>by cases h
theorem le1_ok {x y:AV} (h:le1 x y=true) {v:Value} (hv:VR1 σ g w x v):VR1 σ g w y v:=by
 unfold le1 at h;split at h
 ·exact leSV_ok h hv
 ·obtain⟨vs,rfl,h2,h3⟩:=hv;obtain⟨e,hg⟩:=leL_ok h;refine⟨vs,rfl,by omega,fun i s u hi hu=>?_⟩
  obtain⟨x,h4,h5⟩:=hg i s hi;exact leSV_ok h5 (h3 i x u h4 hu)
 ·cases h
theorem leAs_ok:∀ {xs ys:List AV},leAs xs ys=true→xs.length=ys.length∧∀ (i:Nat) (y:AV),ys[i]?=some y→∃ x,xs[i]?=some x∧le1 x y=true
 | [],[],_=>⟨rfl,fun i y h=>by simp at h⟩
 | x::r,y::s,h=>by
  unfold leAs at h;rw [Bool.and_eq_true] at h;obtain⟨e,ih⟩:=leAs_ok h.2;refine⟨by simp [e],fun i z hi=>?_⟩
  cases i with
  | zero=>cases hi;exact⟨x,rfl,h.1⟩
  | succ i=>exact ih i z hi
 | [],_::_,h=>by cases h
 | _::_,[],h=>by cases h
theorem leAV_ok {x y:AV} (h:leAV x y=true) {v:Value} (hv:VR2 σ g w x v):VR2 σ g w y v:=by
 unfold leAV at h;split at h
 ·obtain⟨vs,rfl,h2,h3⟩:=hv;obtain⟨e,hg⟩:=leAs_ok h;refine⟨vs,rfl,by omega,fun i s u hi hu=>?_⟩
  obtain⟨x,h4,h5⟩:=hg i s hi;exact le1_ok h5 (h3 i x u h4 hu)
 ·cases x <;> cases y <;> first|exact le1_ok h hv|exact Bool.noConfusion h
end
theorem FnC_le {f:FuncId} {args:List AV} {r:AV} (h:ACall Tryz.prog f args [] (fun r' σ'=>leAV r' r=true∧σ'=[])) (hr:zf6 r=true):FnC Tryz.prog f args r:=by
 refine FnC.of_ACall ⟨h.1,fun w0 K0 g w vs hL hp hs hv=>?_⟩ hr
 refine (h.2 w0 K0 g w vs hL hp hs hv).mono ?_
 rintro e w' ⟨v,g',σ',r',he,hd,hvr,hle,rfl⟩;exact⟨v,g',[],r,he,hd,leAV_ok hle hvr,rfl,rfl⟩
theorem evF0 {M:List (Fact Tryz.prog)} {f:FuncId} {args:List AV} {r:AV} (h:(evH M fns (retH growH) ccT noT Tt 100000 60).1.a f args [] (fun r' s=>leAV r' r && s.isEmpty)=true) (hr:zf6 r=true):FnC Tryz.prog f args r:=
 FnC_le (((evH_ok (M:=M) hTt hMix (retH_ok growH_ok) ccT_ok (fun T h=>by cases h) 100000 60).1.a _ _ _ _ h).mono fun r' σ' h=>by
  rw [Bool.and_eq_true] at h;exact⟨h.1,List.isEmpty_iff.1 h.2⟩) hr
end Go.Proofs.YtidkoikjdghlmaaGreatDoor
namespace Go.Proofs
open Go.Shelf
def Tryz.laysM171_ren:Go.Shelf.Ren:=⟨fun|129=>270|171=>78|243=>113|246=>173|283=>227|284=>228|285=>229|286=>230|317=>269|318=>271|319=>272|320=>273|337=>293|338=>294|n=>n,fun|0=>0|2=>2|3=>3|4=>4|5=>5|9=>9|20=>20|37=>48|46=>305|51=>363|53=>367|171=>366|173=>370|212=>396|213=>397|232=>432|233=>433|n=>n,fun|17=>1|18=>6|19=>7|n=>n⟩
theorem Tryz.laysM171:Go.Proofs.LaysM.n171 Tryz.prog Tryz.laysM171_ren:={
 mixed:=by kernel_rfl
 f129:=Tryz.func270.trans (congrArg some (by kernel_rfl))
 f171:=Tryz.func78.trans (congrArg some (by kernel_rfl))
 f243:=Tryz.func113.trans (congrArg some (by kernel_rfl))
 f246:=Tryz.func173.trans (congrArg some (by kernel_rfl))
 f283:=Tryz.func227.trans (congrArg some (by kernel_rfl))
 f284:=Tryz.func228.trans (congrArg some (by kernel_rfl))
 f285:=Tryz.func229.trans (congrArg some (by kernel_rfl))
 f286:=Tryz.func230.trans (congrArg some (by kernel_rfl))
 f317:=Tryz.func269.trans (congrArg some (by kernel_rfl))
 f318:=Tryz.func271.trans (congrArg some (by kernel_rfl))
 f319:=Tryz.func272.trans (congrArg some (by kernel_rfl))
 f320:=Tryz.func273.trans (congrArg some (by kernel_rfl))
 f337:=Tryz.func293.trans (congrArg some (by kernel_rfl))
 f338:=Tryz.func294.trans (congrArg some (by kernel_rfl))
 t0:=Tryz.underlying0
 a0:=Tryz.isAgg0
 z0:=Tryz.sizeOf0
 v0:=Tryz.zeroValue0
 t2:=Tryz.underlying2
 a2:=Tryz.isAgg2
 z2:=Tryz.sizeOf2
 v2:=Tryz.zeroValue2
 t3:=Tryz.underlying3
 a3:=Tryz.isAgg3
 z3:=Tryz.sizeOf3
 v3:=Tryz.zeroValue3
 t4:=Tryz.underlying4
 a4:=Tryz.isAgg4
 z4:=Tryz.sizeOf4
 v4:=Tryz.zeroValue4
 t5:=Tryz.underlying5
 a5:=Tryz.isAgg5
 z5:=Tryz.sizeOf5
 v5:=Tryz.zeroValue5
 t9:=Tryz.underlying9
 a9:=Tryz.isAgg9
 z9:=Tryz.sizeOf9
 v9:=Tryz.zeroValue9
 t20:=Tryz.underlying20
 a20:=Tryz.isAgg20
 z20:=Tryz.sizeOf20
 v20:=Tryz.zeroValue20
 t37:=Tryz.underlying48
 a37:=Tryz.isAgg48
 z37:=Tryz.sizeOf48
 v37:=Tryz.zeroValue48
 t46:=Tryz.underlying305
 a46:=Tryz.isAgg305
 z46:=Tryz.sizeOf305
 v46:=Tryz.zeroValue305
 t51:=Tryz.underlying363
 a51:=Tryz.isAgg363
 z51:=Tryz.sizeOf363
 v51:=Tryz.zeroValue363
 t53:=Tryz.underlying367
 a53:=Tryz.isAgg367
 z53:=Tryz.sizeOf367
 v53:=Tryz.zeroValue367
 t171:=Tryz.underlying366
 a171:=Tryz.isAgg366
 z171:=Tryz.sizeOf366
 v171:=Tryz.zeroValue366
 t173:=Tryz.underlying370
 a173:=Tryz.isAgg370
 z173:=Tryz.sizeOf370
 v173:=Tryz.zeroValue370
 t212:=Tryz.underlying396
 a212:=Tryz.isAgg396
 z212:=Tryz.sizeOf396
 v212:=Tryz.zeroValue396
 t213:=Tryz.underlying397
 a213:=Tryz.isAgg397
 z213:=Tryz.sizeOf397
 t232:=Tryz.underlying432
 a232:=Tryz.isAgg432
 z232:=Tryz.sizeOf432
 v232:=Tryz.zeroValue432
 t233:=Tryz.underlying433
 a233:=Tryz.isAgg433
 z233:=Tryz.sizeOf433
 v233:=Tryz.zeroValue433
 g17:=by kernel_rfl
 g18:=by kernel_rfl
 g19:=by kernel_rfl
 i0:=by kernel_rfl
 i2:=by kernel_rfl
 i3:=by kernel_rfl
 i4:=by kernel_rfl
 i5:=by kernel_rfl
 i9:=by kernel_rfl
 i20:=by kernel_rfl
 i37:=by kernel_rfl
 i46:=by kernel_rfl
 i51:=by kernel_rfl
 i53:=by kernel_rfl
 i171:=by kernel_rfl
 i173:=by kernel_rfl
 i212:=by kernel_rfl
 i232:=by kernel_rfl
 i233:=by kernel_rfl
 m17:=by kernel_rfl
 m18:=by kernel_rfl
 m19:=by kernel_rfl }
def Tryz.laysC172_ren:Go.Shelf.Ren:=⟨fun|129=>270|171=>78|172=>138|205=>279|243=>113|244=>195|245=>196|246=>173|247=>242|279=>243|280=>244|281=>245|282=>246|283=>227|284=>228|285=>229|286=>230|287=>277|316=>278|317=>269|318=>271|319=>272|320=>273|321=>296|322=>297|337=>293|338=>294|n=>n,fun|0=>0|2=>2|3=>3|4=>4|5=>5|9=>9|20=>20|21=>21|37=>48|46=>305|51=>363|53=>367|75=>114|76=>115|80=>118|85=>377|127=>148|143=>425|145=>427|167=>376|168=>379|171=>366|173=>370|175=>407|210=>410|212=>396|213=>397|232=>432|233=>433|n=>n,fun|15=>4|16=>5|17=>1|18=>6|19=>7|n=>n⟩
theorem Tryz.laysC172:Go.Proofs.LaysC.n172 Tryz.prog Tryz.laysC172_ren:={
 mixed:=by kernel_rfl
 f129:=Tryz.func270.trans (congrArg some (by kernel_rfl))
 f171:=Tryz.func78.trans (congrArg some (by kernel_rfl))
 f172:=Tryz.func138.trans (congrArg some (by kernel_rfl))
 f205:=Tryz.func279.trans (congrArg some (by kernel_rfl))
 f243:=Tryz.func113.trans (congrArg some (by kernel_rfl))
 f244:=Tryz.func195.trans (congrArg some (by kernel_rfl))
 f245:=Tryz.func196.trans (congrArg some (by kernel_rfl))
 f246:=Tryz.func173.trans (congrArg some (by kernel_rfl))
 f247:=Tryz.func242.trans (congrArg some (by kernel_rfl))
 f279:=Tryz.func243.trans (congrArg some (by kernel_rfl))
 f280:=Tryz.func244.trans (congrArg some (by kernel_rfl))
 f281:=Tryz.func245.trans (congrArg some (by kernel_rfl))
 f282:=Tryz.func246.trans (congrArg some (by kernel_rfl))
 f283:=Tryz.func227.trans (congrArg some (by kernel_rfl))
 f284:=Tryz.func228.trans (congrArg some (by kernel_rfl))
 f285:=Tryz.func229.trans (congrArg some (by kernel_rfl))
 f286:=Tryz.func230.trans (congrArg some (by kernel_rfl))
 f287:=Tryz.func277.trans (congrArg some (by kernel_rfl))
 f316:=Tryz.func278.trans (congrArg some (by kernel_rfl))
 f317:=Tryz.func269.trans (congrArg some (by kernel_rfl))
 f318:=Tryz.func271.trans (congrArg some (by kernel_rfl))
 f319:=Tryz.func272.trans (congrArg some (by kernel_rfl))
 f320:=Tryz.func273.trans (congrArg some (by kernel_rfl))
 f321:=Tryz.func296.trans (congrArg some (by kernel_rfl))
 f322:=Tryz.func297.trans (congrArg some (by kernel_rfl))
 f337:=Tryz.func293.trans (congrArg some (by kernel_rfl))
 f338:=Tryz.func294.trans (congrArg some (by kernel_rfl))
 t0:=Tryz.underlying0
 a0:=Tryz.isAgg0
 z0:=Tryz.sizeOf0
 v0:=Tryz.zeroValue0
 t2:=Tryz.underlying2
 a2:=Tryz.isAgg2
 z2:=Tryz.sizeOf2
 v2:=Tryz.zeroValue2
 t3:=Tryz.underlying3
 a3:=Tryz.isAgg3
 z3:=Tryz.sizeOf3
 v3:=Tryz.zeroValue3
 t4:=Tryz.underlying4
 a4:=Tryz.isAgg4
 z4:=Tryz.sizeOf4
 v4:=Tryz.zeroValue4
 t5:=Tryz.underlying5
 a5:=Tryz.isAgg5
 z5:=Tryz.sizeOf5
 v5:=Tryz.zeroValue5
 t9:=Tryz.underlying9
 a9:=Tryz.isAgg9
 z9:=Tryz.sizeOf9
 v9:=Tryz.zeroValue9
 t20:=Tryz.underlying20
 a20:=Tryz.isAgg20
 z20:=Tryz.sizeOf20
 v20:=Tryz.zeroValue20
 t21:=Tryz.underlying21
 a21:=Tryz.isAgg21
 z21:=Tryz.sizeOf21
 v21:=Tryz.zeroValue21
 t37:=Tryz.underlying48
 a37:=Tryz.isAgg48
 z37:=Tryz.sizeOf48
 v37:=Tryz.zeroValue48
 t46:=Tryz.underlying305
 a46:=Tryz.isAgg305
 z46:=Tryz.sizeOf305
 v46:=Tryz.zeroValue305
 t51:=Tryz.underlying363
 a51:=Tryz.isAgg363
 z51:=Tryz.sizeOf363
 v51:=Tryz.zeroValue363
 t53:=Tryz.underlying367
 a53:=Tryz.isAgg367
 z53:=Tryz.sizeOf367
 v53:=Tryz.zeroValue367
 t75:=Tryz.underlying114
 a75:=Tryz.isAgg114
 z75:=Tryz.sizeOf114
 v75:=Tryz.zeroValue114
 t76:=Tryz.underlying115
 a76:=Tryz.isAgg115
 z76:=Tryz.sizeOf115
 v76:=Tryz.zeroValue115
 t85:=Tryz.underlying377
 a85:=Tryz.isAgg377
 z85:=Tryz.sizeOf377
 v85:=Tryz.zeroValue377
 t127:=Tryz.underlying148
 a127:=Tryz.isAgg148
 z127:=Tryz.sizeOf148
 v127:=Tryz.zeroValue148
 t143:=Tryz.underlying425
 a143:=Tryz.isAgg425
 z143:=Tryz.sizeOf425
 v143:=Tryz.zeroValue425
 t145:=Tryz.underlying427
 a145:=Tryz.isAgg427
 z145:=Tryz.sizeOf427
 v145:=Tryz.zeroValue427
 t167:=Tryz.underlying376
 a167:=Tryz.isAgg376
 z167:=Tryz.sizeOf376
 v167:=Tryz.zeroValue376
 t168:=Tryz.underlying379
 a168:=Tryz.isAgg379
 z168:=Tryz.sizeOf379
 v168:=Tryz.zeroValue379
 t171:=Tryz.underlying366
 a171:=Tryz.isAgg366
 z171:=Tryz.sizeOf366
 v171:=Tryz.zeroValue366
 t173:=Tryz.underlying370
 a173:=Tryz.isAgg370
 z173:=Tryz.sizeOf370
 v173:=Tryz.zeroValue370
 t175:=Tryz.underlying407
 a175:=Tryz.isAgg407
 z175:=Tryz.sizeOf407
 v175:=Tryz.zeroValue407
 t210:=Tryz.underlying410
 a210:=Tryz.isAgg410
 z210:=Tryz.sizeOf410
 v210:=Tryz.zeroValue410
 t212:=Tryz.underlying396
 a212:=Tryz.isAgg396
 z212:=Tryz.sizeOf396
 v212:=Tryz.zeroValue396
 t213:=Tryz.underlying397
 a213:=Tryz.isAgg397
 z213:=Tryz.sizeOf397
 t232:=Tryz.underlying432
 a232:=Tryz.isAgg432
 z232:=Tryz.sizeOf432
 v232:=Tryz.zeroValue432
 t233:=Tryz.underlying433
 a233:=Tryz.isAgg433
 z233:=Tryz.sizeOf433
 v233:=Tryz.zeroValue433
 g15:=by kernel_rfl
 g16:=by kernel_rfl
 g17:=by kernel_rfl
 g18:=by kernel_rfl
 g19:=by kernel_rfl
 t80:=Tryz.underlying118
 a80:=Tryz.isAgg118
 z80:=Tryz.sizeOf118
 v80:=Tryz.zeroValue118
 i0:=by kernel_rfl
 i2:=by kernel_rfl
 i3:=by kernel_rfl
 i4:=by kernel_rfl
 i5:=by kernel_rfl
 i9:=by kernel_rfl
 i20:=by kernel_rfl
 i21:=by kernel_rfl
 i37:=by kernel_rfl
 i46:=by kernel_rfl
 i51:=by kernel_rfl
 i53:=by kernel_rfl
 i75:=by kernel_rfl
 i76:=by kernel_rfl
 i80:=by kernel_rfl
 i85:=by kernel_rfl
 i127:=by kernel_rfl
 i143:=by kernel_rfl
 i145:=by kernel_rfl
 i167:=by kernel_rfl
 i168:=by kernel_rfl
 i171:=by kernel_rfl
 i173:=by kernel_rfl
 i175:=by kernel_rfl
 i210:=by kernel_rfl
 i212:=by kernel_rfl
 i232:=by kernel_rfl
 i233:=by kernel_rfl
 m15:=by kernel_rfl
 m16:=by kernel_rfl
 m17:=by kernel_rfl
 m18:=by kernel_rfl
 m19:=by kernel_rfl
 c0:=by kernel_rfl
 c2:=by kernel_rfl
 c3:=by kernel_rfl
 c4:=by kernel_rfl
 c5:=by kernel_rfl
 c9:=by kernel_rfl
 c20:=by kernel_rfl
 c21:=by kernel_rfl
 c37:=by kernel_rfl
 c46:=by kernel_rfl
 c51:=by kernel_rfl
 c53:=by kernel_rfl
 c75:=by kernel_rfl
 c76:=by kernel_rfl
 c80:=by kernel_rfl
 c85:=by kernel_rfl
 c127:=by kernel_rfl
 c143:=by kernel_rfl
 c145:=by kernel_rfl
 c167:=by kernel_rfl
 c168:=by kernel_rfl
 c171:=by kernel_rfl
 c173:=by kernel_rfl
 c175:=by kernel_rfl
 c210:=by kernel_rfl
 c212:=by kernel_rfl
 c213:=by kernel_rfl
 c232:=by kernel_rfl
 c233:=by kernel_rfl }
def Tryz.lays146_ren:Go.Shelf.Ren:=⟨fun|138=>116|143=>117|146=>58|195=>175|197=>176|217=>169|218=>177|219=>111|221=>80|224=>171|225=>170|260=>232|266=>225|267=>172|268=>115|314=>226|n=>n,fun|0=>0|3=>3|4=>4|5=>5|9=>9|21=>21|31=>24|46=>305|51=>363|105=>307|119=>399|138=>401|139=>402|146=>364|n=>n,fun|1=>0|3=>2|4=>3|n=>n⟩
theorem Tryz.lays146:Go.Proofs.Lays.n146 Tryz.prog Tryz.lays146_ren:={
 mixed:=by kernel_rfl
 f138:=Tryz.func116.trans (congrArg some (by kernel_rfl))
 f143:=Tryz.func117.trans (congrArg some (by kernel_rfl))
 f146:=Tryz.func58.trans (congrArg some (by kernel_rfl))
 f195:=Tryz.func175.trans (congrArg some (by kernel_rfl))
 f197:=Tryz.func176.trans (congrArg some (by kernel_rfl))
 f217:=Tryz.func169.trans (congrArg some (by kernel_rfl))
 f218:=Tryz.func177.trans (congrArg some (by kernel_rfl))
 f219:=Tryz.func111.trans (congrArg some (by kernel_rfl))
 f221:=Tryz.func80.trans (congrArg some (by kernel_rfl))
 f224:=Tryz.func171.trans (congrArg some (by kernel_rfl))
 f225:=Tryz.func170.trans (congrArg some (by kernel_rfl))
 f260:=Tryz.func232.trans (congrArg some (by kernel_rfl))
 f266:=Tryz.func225.trans (congrArg some (by kernel_rfl))
 f267:=Tryz.func172.trans (congrArg some (by kernel_rfl))
 f268:=Tryz.func115.trans (congrArg some (by kernel_rfl))
 f314:=Tryz.func226.trans (congrArg some (by kernel_rfl))
 t0:=Tryz.underlying0
 a0:=Tryz.isAgg0
 z0:=Tryz.sizeOf0
 v0:=Tryz.zeroValue0
 t3:=Tryz.underlying3
 a3:=Tryz.isAgg3
 z3:=Tryz.sizeOf3
 v3:=Tryz.zeroValue3
 t4:=Tryz.underlying4
 a4:=Tryz.isAgg4
 z4:=Tryz.sizeOf4
 v4:=Tryz.zeroValue4
 t5:=Tryz.underlying5
 a5:=Tryz.isAgg5
 z5:=Tryz.sizeOf5
 v5:=Tryz.zeroValue5
 t9:=Tryz.underlying9
 a9:=Tryz.isAgg9
 z9:=Tryz.sizeOf9
 v9:=Tryz.zeroValue9
 t21:=Tryz.underlying21
 a21:=Tryz.isAgg21
 z21:=Tryz.sizeOf21
 v21:=Tryz.zeroValue21
 t31:=Tryz.underlying24
 a31:=Tryz.isAgg24
 z31:=Tryz.sizeOf24
 v31:=Tryz.zeroValue24
 t46:=Tryz.underlying305
 a46:=Tryz.isAgg305
 z46:=Tryz.sizeOf305
 v46:=Tryz.zeroValue305
 t51:=Tryz.underlying363
 a51:=Tryz.isAgg363
 z51:=Tryz.sizeOf363
 v51:=Tryz.zeroValue363
 t105:=Tryz.underlying307
 a105:=Tryz.isAgg307
 z105:=Tryz.sizeOf307
 v105:=Tryz.zeroValue307
 t119:=Tryz.underlying399
 a119:=Tryz.isAgg399
 z119:=Tryz.sizeOf399
 t138:=Tryz.underlying401
 a138:=Tryz.isAgg401
 z138:=Tryz.sizeOf401
 v138:=Tryz.zeroValue401
 t139:=Tryz.underlying402
 a139:=Tryz.isAgg402
 z139:=Tryz.sizeOf402
 v139:=Tryz.zeroValue402
 t146:=Tryz.underlying364
 a146:=Tryz.isAgg364
 z146:=Tryz.sizeOf364
 v146:=Tryz.zeroValue364
 g1:=by kernel_rfl
 g3:=by kernel_rfl
 g4:=by kernel_rfl }
def Tryz.lays103_ren:Go.Shelf.Ren:=⟨fun|103=>295|206=>306|210=>302|n=>n,fun|3=>3|4=>4|9=>9|24=>311|n=>n,fun|n=>n⟩
theorem Tryz.lays103:Go.Proofs.Lays.n103 Tryz.prog Tryz.lays103_ren:={
 mixed:=by kernel_rfl
 f103:=Tryz.func295.trans (congrArg some (by kernel_rfl))
 f206:=Tryz.func306.trans (congrArg some (by kernel_rfl))
 f210:=Tryz.func302.trans (congrArg some (by kernel_rfl))
 t3:=Tryz.underlying3
 a3:=Tryz.isAgg3
 z3:=Tryz.sizeOf3
 v3:=Tryz.zeroValue3
 t4:=Tryz.underlying4
 a4:=Tryz.isAgg4
 z4:=Tryz.sizeOf4
 v4:=Tryz.zeroValue4
 t9:=Tryz.underlying9
 a9:=Tryz.isAgg9
 z9:=Tryz.sizeOf9
 v9:=Tryz.zeroValue9
 t24:=Tryz.underlying311
 a24:=Tryz.isAgg311
 z24:=Tryz.sizeOf311
 v24:=Tryz.zeroValue311 }
def Tryz.lays156_ren:Go.Shelf.Ren:=⟨fun|156=>79|165=>114|166=>41|169=>43|240=>74|241=>174|276=>110|277=>231|n=>n,fun|0=>0|3=>3|4=>4|5=>5|9=>9|20=>20|31=>24|37=>48|70=>110|72=>112|75=>114|76=>115|80=>118|127=>148|164=>218|n=>n,fun|n=>n⟩
theorem Tryz.lays156:Go.Proofs.Lays.n156 Tryz.prog Tryz.lays156_ren:={
 mixed:=by kernel_rfl
 f156:=Tryz.func79.trans (congrArg some (by kernel_rfl))
 f165:=Tryz.func114.trans (congrArg some (by kernel_rfl))
 f166:=Tryz.func41.trans (congrArg some (by kernel_rfl))
 f169:=Tryz.func43.trans (congrArg some (by kernel_rfl))
 f240:=Tryz.func74.trans (congrArg some (by kernel_rfl))
 f241:=Tryz.func174.trans (congrArg some (by kernel_rfl))
 f276:=Tryz.func110.trans (congrArg some (by kernel_rfl))
 f277:=Tryz.func231.trans (congrArg some (by kernel_rfl))
 t0:=Tryz.underlying0
 a0:=Tryz.isAgg0
 z0:=Tryz.sizeOf0
 v0:=Tryz.zeroValue0
 t3:=Tryz.underlying3
 a3:=Tryz.isAgg3
 z3:=Tryz.sizeOf3
 v3:=Tryz.zeroValue3
 t4:=Tryz.underlying4
 a4:=Tryz.isAgg4
 z4:=Tryz.sizeOf4
 v4:=Tryz.zeroValue4
 t9:=Tryz.underlying9
 a9:=Tryz.isAgg9
 z9:=Tryz.sizeOf9
 v9:=Tryz.zeroValue9
 t20:=Tryz.underlying20
 a20:=Tryz.isAgg20
 z20:=Tryz.sizeOf20
 v20:=Tryz.zeroValue20
 t31:=Tryz.underlying24
 a31:=Tryz.isAgg24
 z31:=Tryz.sizeOf24
 v31:=Tryz.zeroValue24
 t37:=Tryz.underlying48
 a37:=Tryz.isAgg48
 z37:=Tryz.sizeOf48
 v37:=Tryz.zeroValue48
 t70:=Tryz.underlying110
 a70:=Tryz.isAgg110
 z70:=Tryz.sizeOf110
 v70:=Tryz.zeroValue110
 t72:=Tryz.underlying112
 a72:=Tryz.isAgg112
 z72:=Tryz.sizeOf112
 v72:=Tryz.zeroValue112
 t75:=Tryz.underlying114
 a75:=Tryz.isAgg114
 z75:=Tryz.sizeOf114
 v75:=Tryz.zeroValue114
 t76:=Tryz.underlying115
 a76:=Tryz.isAgg115
 z76:=Tryz.sizeOf115
 v76:=Tryz.zeroValue115
 t127:=Tryz.underlying148
 a127:=Tryz.isAgg148
 z127:=Tryz.sizeOf148
 v127:=Tryz.zeroValue148
 t164:=Tryz.underlying218
 a164:=Tryz.isAgg218
 z164:=Tryz.sizeOf218
 v164:=Tryz.zeroValue218 }
theorem Tryz.bx156:Builder.Extra Tryz.prog Tryz.lays156_ren:={
 sizeBuilder:=by kernel_rfl
 liesBuilder:=by kernel_rfl
 t5:=Tryz.underlying5
 a5:=Tryz.isAgg5
 z5:=Tryz.sizeOf5
 v5:=Tryz.zeroValue5
 infoByte:=by kernel_rfl
 cellsByte:=by kernel_rfl
 sizeByte:=by kernel_rfl
 neB5:=by decide }
def Tryz.lays166_ren:Go.Shelf.Ren:=⟨fun|166=>41|240=>74|276=>110|n=>n,fun|0=>0|3=>3|4=>4|5=>5|9=>9|20=>20|37=>48|70=>110|72=>112|75=>114|80=>118|164=>218|n=>n,fun|n=>n⟩
theorem Tryz.lays166:Go.Proofs.Lays.n166 Tryz.prog Tryz.lays166_ren:={
 mixed:=by kernel_rfl
 f166:=Tryz.func41.trans (congrArg some (by kernel_rfl))
 f240:=Tryz.func74.trans (congrArg some (by kernel_rfl))
 f276:=Tryz.func110.trans (congrArg some (by kernel_rfl))
 t0:=Tryz.underlying0
 a0:=Tryz.isAgg0
 z0:=Tryz.sizeOf0
 v0:=Tryz.zeroValue0
 t3:=Tryz.underlying3
 a3:=Tryz.isAgg3
 z3:=Tryz.sizeOf3
 v3:=Tryz.zeroValue3
 t4:=Tryz.underlying4
 a4:=Tryz.isAgg4
 z4:=Tryz.sizeOf4
 v4:=Tryz.zeroValue4
 t9:=Tryz.underlying9
 a9:=Tryz.isAgg9
 z9:=Tryz.sizeOf9
 v9:=Tryz.zeroValue9
 t20:=Tryz.underlying20
 a20:=Tryz.isAgg20
 z20:=Tryz.sizeOf20
 v20:=Tryz.zeroValue20
 t37:=Tryz.underlying48
 a37:=Tryz.isAgg48
 z37:=Tryz.sizeOf48
 v37:=Tryz.zeroValue48
 t70:=Tryz.underlying110
 a70:=Tryz.isAgg110
 z70:=Tryz.sizeOf110
 v70:=Tryz.zeroValue110
 t72:=Tryz.underlying112
 a72:=Tryz.isAgg112
 z72:=Tryz.sizeOf112
 v72:=Tryz.zeroValue112
 t75:=Tryz.underlying114
 a75:=Tryz.isAgg114
 z75:=Tryz.sizeOf114
 v75:=Tryz.zeroValue114
 t164:=Tryz.underlying218
 a164:=Tryz.isAgg218
 z164:=Tryz.sizeOf218
 v164:=Tryz.zeroValue218 }
theorem Tryz.bx166:Builder.Extra Tryz.prog Tryz.lays166_ren:={
 sizeBuilder:=by kernel_rfl
 liesBuilder:=by kernel_rfl
 t5:=Tryz.underlying5
 a5:=Tryz.isAgg5
 z5:=Tryz.sizeOf5
 v5:=Tryz.zeroValue5
 infoByte:=by kernel_rfl
 cellsByte:=by kernel_rfl
 sizeByte:=by kernel_rfl
 neB5:=by decide }
def Tryz.lays169_ren:Go.Shelf.Ren:=⟨fun|169=>43|n=>n,fun|0=>0|3=>3|5=>5|9=>9|37=>48|70=>110|72=>112|127=>148|n=>n,fun|n=>n⟩
theorem Tryz.lays169:Go.Proofs.Lays.n169 Tryz.prog Tryz.lays169_ren:={
 mixed:=by kernel_rfl
 f169:=Tryz.func43.trans (congrArg some (by kernel_rfl))
 t0:=Tryz.underlying0
 a0:=Tryz.isAgg0
 z0:=Tryz.sizeOf0
 v0:=Tryz.zeroValue0
 t3:=Tryz.underlying3
 a3:=Tryz.isAgg3
 z3:=Tryz.sizeOf3
 v3:=Tryz.zeroValue3
 t9:=Tryz.underlying9
 a9:=Tryz.isAgg9
 z9:=Tryz.sizeOf9
 v9:=Tryz.zeroValue9
 t37:=Tryz.underlying48
 a37:=Tryz.isAgg48
 z37:=Tryz.sizeOf48
 v37:=Tryz.zeroValue48
 t70:=Tryz.underlying110
 a70:=Tryz.isAgg110
 z70:=Tryz.sizeOf110
 v70:=Tryz.zeroValue110
 t72:=Tryz.underlying112
 a72:=Tryz.isAgg112
 z72:=Tryz.sizeOf112
 v72:=Tryz.zeroValue112
 t127:=Tryz.underlying148
 a127:=Tryz.isAgg148
 z127:=Tryz.sizeOf148
 v127:=Tryz.zeroValue148 }
theorem Tryz.bx169:Builder.Extra Tryz.prog Tryz.lays169_ren:={
 sizeBuilder:=by kernel_rfl
 liesBuilder:=by kernel_rfl
 t5:=Tryz.underlying5
 a5:=Tryz.isAgg5
 z5:=Tryz.sizeOf5
 v5:=Tryz.zeroValue5
 infoByte:=by kernel_rfl
 cellsByte:=by kernel_rfl
 sizeByte:=by kernel_rfl
 neB5:=by decide }
end Go.Proofs
namespace Go.Proofs.YtidkoikjdghlmaaGreatDoor
open Go Go.QL Go.RowKit FoT
set_option maxHeartbeats 1600000
set_option maxRecDepth 20000
attribute [local irreducible] ACall FnC YC
theorem zod (n:Int) (h0 : -9223372036854775808≤n) (h1:n≤9223372036854775807):FnC Tryz.prog 78 [iv .i64 n] (sv ⟨(Lib.itoa n).toArray⟩):=by
 unfold FnC;refine⟨⟨_,Tryz.func78,rfl,rfl⟩,fun K w vs hL hK hs hv=>?_⟩
 obtain⟨v,rfl⟩:∃ v,vs = #[v]:=by
  match vs,hs with
  | ⟨[v]⟩,_=>exact⟨v,rfl⟩
 have h2:=hv 0 (iv .i64 n) v rfl rfl;have hvi:v=.int .i64 n:=by
  cases h2 with
  | d _ _ h=>cases h;rfl
 subst hvi;refine Calls.mono (show Calls Tryz.prog 78 #[.int .i64 n] w _ from Any.strconv_Itoa Tryz.laysM171 n h0 h1 w (hL.tab (by decide +kernel) (by kernel_rfl:_=some 1))) ?_
 rintro e w' ⟨rfl,k,os,rfl⟩;have hb:=Lib.below_grow w.heap.size w (Nat.le_refl _) k os;refine⟨_,K,rfl,hb,⟨fun _ _ h=>h,fun b o hk=>?_⟩,fun _ _ _ h=>h,fun b o hk=>Nat.lt_of_lt_of_le (hK b o hk) hb.size,zL _ rfl⟩
 exact hb.cell (hK b o hk)
theorem tupE {σ:Sg} {g:Gh} {w:World} {a b:Value} {p:PV} (ha:a.oneCell'=true) (hb:PR g.K w p b):VR2 σ g w (.t [.x (.d (.v a)),.x (.d p)]) (.tuple #[a,b]):=by
 refine⟨#[a,b],rfl,rfl,fun i x v hi hv=>?_⟩
 match i with
 | 0=>cases hi;cases hv;exact zL (σ:=σ) (g:=g) (w:=w) _ ha
 | 1=>cases hi;cases hv;exact .d _ _ hb
 | i+2=>simp at hi
def atoiE (s:ByteArray):AV:=
 match Lib.atoiAll s.data.toList with
 | .ok v=>.t [iv .i64 v,.x (.d (.v .nilIface))]
 | .range=>.t [iv .i64 (Lib.atoiSat s.data.toList),.x (.d .e)]
 | _=>.t [iv .i64 0,.x (.d .e)]
theorem atoi_e (s:ByteArray) (hs:s.size≤281474976710656) {σ:Sg}:ACall Tryz.prog 138 [sv s] σ (fun r σ'=>r=atoiE s∧σ'=σ):=by
 unfold ACall;refine⟨⟨_,Tryz.func138,rfl,rfl⟩,fun w0 K0 g w vs hL hhp hs' hv=>?_⟩
 obtain⟨v,rfl⟩:∃ v,vs = #[v]:=by
  match vs,hs' with
  | ⟨[v]⟩,_=>exact⟨v,rfl⟩
 have h2:=zm (hv 0 (sv s) v rfl rfl);subst h2;have hLw:=hL.mono hhp.ext;have fin:∀ (w':World) (a b:Value) (p:PV) (ha:a.oneCell'=true) (hb:∀ K w,PR K w p b),Below w.heap.size w w'→atoiE s=.t [.x (.d (.v a)),.x (.d p)] →
   ∃ v g' σ' r,Ending.returned (.tuple #[a,b])=.returned v∧Did w0 K0 σ g w σ' g' w'∧VR2 σ' g' w' r v∧r=atoiE s∧σ'=σ:=by
  intro w' a b p ha hb hbl hR;refine⟨_,⟨g.K,g.μ⟩,σ,_,rfl,hhp.grow hbl ⟨fun _ _ h=>h,fun b o hk=>hbl.cell (hhp.val b o hk)⟩ (fun _ _ _ h=>h) (fun b o hk=>Nat.lt_of_lt_of_le (hhp.val b o hk) hbl.size),tupE ha (hb _ _),hR.symm,rfl⟩
 cases h:Lib.atoiAll s.data.toList with
 | ok v=>
  refine (show Calls Tryz.prog 138 #[.string s] w _ from Any.strconv_Atoi_ok Tryz.laysC172 s (by omega) v h w).mono ?_
  rintro e w' ⟨rfl,hw⟩;have hbl:Below w.heap.size w w':=by
   rcases hw with rfl|⟨t,rfl⟩
   ·exact Below.refl _ _
   ·exact Lib.bytesWorld_below w _ t
  exact fin w' _ _ (.v .nilIface) rfl (fun _ _=>.v _ rfl) hbl (by unfold atoiE;rw [h])
 | range=>
  obtain⟨tp,p,hvar⟩:=hLw.err (nm:= "strconv.ErrRange") (by decide +kernel) (by kernel_rfl:_=some 5);refine (show Calls Tryz.prog 138 #[.string s] w _ from Any.strconv_Atoi_range_var Tryz.laysC172 s hs h tp p w hvar).mono ?_
  rintro e w' ⟨N,rfl,_,_,hbl⟩;exact fin w' _ _ .e rfl (fun _ _=>.e _ _) hbl (by unfold atoiE;rw [h])
 | _=>
  obtain⟨tp,p,hvar⟩:=hLw.err (nm:= "strconv.ErrSyntax") (by decide +kernel) (by kernel_rfl:_=some 4);refine (show Calls Tryz.prog 138 #[.string s] w _ from Any.strconv_Atoi_syntax_var Tryz.laysC172 s hs h tp p w hvar).mono ?_
  rintro e w' ⟨N,rfl,_,_,hbl⟩;exact fin w' _ _ .e rfl (fun _ _=>.e _ _) hbl (by unfold atoiE;rw [h])
theorem zql (s p:ByteArray):FnC Tryz.prog 295 [sv s,sv p] (.t [sv ⟨(Lib.trimPrefix s.data.toList p.data.toList).toArray⟩,bv (Lib.hasPrefix s.data.toList p.data.toList)]):=by
 unfold FnC;refine⟨⟨_,Tryz.func295,rfl,rfl⟩,fun K w vs hL hK hs' hv=>?_⟩
 obtain⟨u,v,rfl⟩:∃ u v,vs = #[u,v]:=by
  match vs,hs' with
  | ⟨[u,v]⟩,_=>exact⟨u,v,rfl⟩
 have h2:=zm (hv 0 (sv s) u rfl rfl);have h3:=zm (hv 1 (sv p) v rfl rfl);subst h2;subst h3;refine Calls.mono (show Calls Tryz.prog 295 #[.string s,.string p] w _ from Any.strings_CutPrefix Tryz.lays103 s p w) ?_
 rintro e w' ⟨rfl,rfl⟩;exact⟨_,K,rfl,Below.refl _ _,Ext.refl _ _,fun _ _ _ h=>h,hK,tupE rfl (.v _ rfl)⟩
abbrev strsPV (l:List ByteArray):List (List PV):=l.map fun p=>[.v (.string p)]
theorem split_fn (s sep:ByteArray) (hs:s.size < 4294967281) (h1:1≤sep.size):FnC Tryz.prog 58 [sv s,sv sep] (.x (.d (.s 1 (strsPV (Lib.splitB sep 0 (Lib.countB s sep) s))))):=by
 unfold FnC;refine⟨⟨_,Tryz.func58,rfl,rfl⟩,fun K w vs hL hK hs' hv=>?_⟩
 obtain⟨u,v,rfl⟩:∃ u v,vs = #[u,v]:=by
  match vs,hs' with
  | ⟨[u,v]⟩,_=>exact⟨u,v,rfl⟩
 have h2:=zm (hv 0 (sv s) u rfl rfl);have h3:=zm (hv 1 (sv sep) v rfl rfl);subst h2;subst h3;obtain⟨m,hm⟩:=hL.len (nm:= "internal/bytealg.MaxLen") (by decide +kernel) (by kernel_rfl:_=some 0);refine Calls.mono (show Calls Tryz.prog 58 #[.string s,.string sep] w _ from Any.strings_Split Tryz.lays146 (by kernel_rfl) s sep m w hs hm h1) ?_
 rintro e w' ⟨rfl,rfl⟩;have hle:=Lib.countB_le sep h1 s.size s (Nat.le_refl _);have hlen:=Lib.splitB_all sep h1 0 _ s rfl;generalize hps:Lib.splitB sep 0 (Lib.countB s sep) s=ps at hlen;have hbl:Below w.heap.size w (w.alloc (.cells (ps.map Value.string).toArray 9)):=(Below.refl _ w).alloc (Nat.le_refl _) _;refine⟨_,fun b o=>K b o∨b=w.heap.size,rfl,hbl,⟨fun _ _ h=>.inl h,fun b o hk=>hbl.cell (hK b o hk)⟩,fun b o hlt hk=>hk.elim id fun e=>absurd e (Nat.ne_of_lt hlt),fun b o hk=>?_,?_⟩
 ·rcases hk with hk|rfl
  ·exact Nat.lt_of_lt_of_le (hK b o hk) hbl.size
  ·simp
 ·refine .d _ _ ?_
  have hpr:=PR.s (K:=fun b o=>K b o∨b=w.heap.size) (w:=w.alloc (.cells (ps.map Value.string).toArray 9)) 1 (strsPV ps) (some ⟨w.heap.size,0,none⟩) (Lib.countB s sep+1) w.heap.size 0 (fun i _=>.string (ps.getD i ByteArray.empty))
   (by simp [strsPV,hlen]) (by unfold maxLen;omega) (by intro e he;simp [strsPV] at he;obtain⟨a,_,rfl⟩:=he;rfl) (fun _=>rfl) (fun i e _ j _=>.inr rfl)
   (fun i e he j hj=>by
    simp only [strsPV,List.getElem?_map,Option.map_eq_some_iff] at he;obtain⟨p,hp,rfl⟩:=he;simp at hj;subst hj;rw [World.cell?_alloc_at _ _ _ _ rfl];simp [hp])
   (fun i e he j x hx=>by
    simp only [strsPV,List.getElem?_map,Option.map_eq_some_iff] at he;obtain⟨p,hp,rfl⟩:=he;cases j with
    | zero=>cases hx;simp [List.getD,hp];exact .v _ rfl
    | succ j=>simp at hx)
  rw [show (strsPV ps).length=Lib.countB s sep+1 by simp [strsPV,hlen]] at hpr;exact hpr
theorem join_fn (l:List ByteArray) (sep:ByteArray) (h0:l≠[]) (hl:l.length≤140737488355328) (hj:(Lib.join (l.map (·.data.toList)) sep.data.toList).length≤140737488355328) :
  FnC Tryz.prog 79 [.x (.d (.s 1 (strsPV l))),sv sep] (sv ⟨(Lib.join (l.map (·.data.toList)) sep.data.toList).toArray⟩):=by
 unfold FnC;refine⟨⟨_,Tryz.func79,rfl,rfl⟩,fun K w vs hL hK hs' hv=>?_⟩
 obtain⟨u,v,rfl⟩:∃ u v,vs = #[u,v]:=by
  match vs,hs' with
  | ⟨[u,v]⟩,_=>exact⟨u,v,rfl⟩
 have h2:=hv 0 _ u rfl rfl;have h3:=zm (hv 1 (sv sep) v rfl rfl);subst h3;cases h2 with
 | d _ _ hp=>
  generalize hx:strsPV l=xs at hp;cases hp with
  | s _ _ a cap b off vs hcap hmax hsz ha hKc hc hr=>
   subst hx;have hne:strsPV l≠[]:=by simpa using h0
   obtain rfl:=ha hne;have hcells:∀ (j:Nat) x,l[j]?=some x→w.cell? ⟨b,off+j,none⟩=some (.string x):=fun j x hj=>by
    have he:(strsPV l)[j]?=some [.v (.string x)]:=by simp [strsPV,hj]
    have h4:=hc j _ he 0 (by simp);have h5:=hr j _ he 0 _ rfl;generalize vs j 0=q at h4 h5;cases h5;simpa using h4
   have hb:b < w.heap.size:=by
    obtain⟨x,r,rfl⟩:∃ x r,l=x::r:=by cases l with|nil=>exact absurd rfl h0|cons x r=>exact⟨x,r,rfl⟩
    exact hK b _ (hKc 0 [.v (.string x)] rfl 0 (by simp))
   have hlen:(strsPV l).length=l.length:=by simp [strsPV]
   rw [hlen] at hcap ⊢;refine Calls.mono (show Calls Tryz.prog 79 #[.slice (some ⟨b,off,none⟩) l.length cap,.string sep] w _ from Any.strings_Join Tryz.lays156 Tryz.bx156 b off cap l sep w hcells hb hl hcap hj) ?_
   rintro e w' ⟨rfl,hb⟩;refine⟨_,K,rfl,hb,⟨fun _ _ h=>h,fun b o hk=>?_⟩,fun _ _ _ h=>h,fun b o hk=>Nat.lt_of_lt_of_le (hK b o hk) hb.size,zL _ rfl⟩
   exact hb.cell (hK b o hk)
def intsOf:SV→Option (List Int)
 | .d (.s 1 xs)=>xs.mapM fun r=>match r with|[.v (.int .i64 n)]=>some n|_=>none
 | .d (.v (.slice none 0 0))=>some []
 | _=>none
theorem ints_map:∀ {xs:List (List PV)} {l:List Int},(xs.mapM fun r=>match r with|[PV.v (.int .i64 n)]=>some n|_=>none)=some l→xs=l.map iPV
 | [],l,h=>by cases h;rfl
 | x::r,l,h=>by
  rw [List.mapM_cons] at h;split at h
  ·rename_i n;cases hr:(r.mapM fun r=>match r with|[PV.v (.int .i64 n)]=>some n|_=>none) with
   | none=>rw [hr] at h;cases h
   | some l'=>rw [hr] at h;cases h;rw [ints_map hr];rfl
  ·cases h
theorem intsOf_ok {s:SV} {l:List Int} (h:intsOf s=some l):LeSV s (.d (zR l)):=by
 unfold intsOf at h;split at h
 ·rw [ints_map h];exact .inl rfl
 ·cases h;exact .inr ⟨rfl,1,rfl⟩
 ·cases h
def intOf:SV→Option Int
 | .d (.v (.int .i64 n))=>some n
 | _=>none
theorem intOf_ok {s:SV} {n:Int} (h:intOf s=some n):s=iC n:=by
 unfold intOf at h;split at h
 ·cases h;rfl
 ·cases h
def stOf:List SV→Option OrS
 | [a,b,c,d,e,f,g,i]=>match intsOf a,intsOf b,intOf c,intsOf d,intOf e,intOf f,intOf g,intOf i with
  | some a,some b,some c,some d,some e,some f,some g,some i=>some ⟨a,b,c,d,e,f,g,i⟩
  | _,_,_,_,_,_,_,_=>none
 | _=>none
theorem stOf_ok {cs:List SV} {s:OrS} (h:stOf cs=some s):LeW1 (.a cs) (stAV s):=by
 unfold stOf at h;split at h
 ·split at h
  ·rename_i h1 h2 h3 h4 h5 h6 h7 h8;cases h;rw [intOf_ok h3,intOf_ok h5,intOf_ok h6,intOf_ok h7,intOf_ok h8];exact⟨intsOf_ok h1,intsOf_ok h2,.inl rfl,intsOf_ok h4,.inl rfl,.inl rfl,.inl rfl,.inl rfl,trivial⟩
  ·cases h
 ·cases h
def wordB (n:Int):Bool:=decide (0≤n∧n≤16777215)
def goodB (s:OrS):Bool:=Nat.beq s.store.length 128 && s.store.all wordB && Nat.ble s.tape.length 200 && s.tape.all wordB && decide (0≤s.taken∧s.taken≤s.tape.length) && Nat.ble s.printed.length 200 && s.printed.all wordB &&
 decide (0≤s.time∧s.time≤1000000000) && decide (0≤s.at_∧s.at_≤127) && decide (0≤s.done∧s.done≤s.time) && decide (0≤s.why∧s.why≤4) && decide ((s.time - s.at_) % 16=0)
theorem wordsB {l:List Int} (h:l.all wordB=true):∀ w ∈ l,zP w:=fun w hw=>by
 have:=of_decide_eq_true (List.all_eq_true.1 h w hw);unfold zP;omega
theorem goodB_ok {s:OrS} (h:goodB s=true):GoodS s:=by
 unfold goodB at h;simp only [Bool.and_eq_true,decide_eq_true_eq] at h;obtain⟨⟨⟨⟨⟨⟨⟨⟨⟨⟨⟨h1,h2⟩,h3⟩,h4⟩,h5⟩,h6⟩,h7⟩,h8⟩,h9⟩,h10⟩,h11⟩,h12⟩:=h;exact⟨⟨Nat.eq_of_beq_eq_true h1,wordsB h2,Nat.le_of_ble_eq_true h3,wordsB h4,h5,Nat.le_of_ble_eq_true h6,wordsB h7,h8,h9,h10,h11⟩,h12⟩
theorem run_fact {cs:List SV} {n:Int} {r:AV} (h:(match stOf cs with|some s=>goodB s && decide (0≤n∧n≤5000) && eqAV (.t [stAV (runO n.toNat s),iv .i64 0]) r|none=>false)=true):FnC Tryz.prog 105 [.a cs,iv .i64 n] r:=by
 split at h
 ·rename_i s hs;simp only [Bool.and_eq_true,decide_eq_true_eq] at h;rw [← eqAV_ok h.2];obtain⟨hg,hn⟩:=h.1;have h1:=orun_fn s (goodB_ok hg) n.toNat (by omega);rw [Int.toNat_of_nonneg hn.1] at h1;unfold FnC at h1 ⊢;refine⟨h1.1,fun K w vs hL hK hs' hv=>h1.2 K w vs hL hK hs' fun i x v hi hv'=>?_⟩
  match i with
  | 0=>cases hi;exact LeW1.ok (stOf_ok hs) (hv 0 (.a cs) v rfl hv')
  | 1=>cases hi;exact hv 1 _ v rfl hv'
  | i+2=>cases hi
 ·cases h
theorem chk_fact {cs:List SV} (h:(match stOf cs with|some s=>goodB s|none=>false)=true):FnC Tryz.prog 153 [.a cs] (.t [iv .i64 0,iv .i64 0,iv .i64 0]):=by
 split at h
 ·rename_i s hs;have h1:=ocheck_fn s (goodB_ok h);unfold FnC at h1 ⊢;refine⟨h1.1,fun K w vs hL hK hs' hv=>h1.2 K w vs hL hK hs' fun i x v hi hv'=>?_⟩
  match i with
  | 0=>cases hi;exact LeW1.ok (stOf_ok hs) (hv 0 (.a cs) v rfl hv')
  | i+1=>cases hi
 ·cases h
theorem itoa_fact {n:Int} {r:AV} (h:(decide (-9223372036854775808≤n∧n≤9223372036854775807) && eqAV (sv ⟨(Lib.itoa n).toArray⟩) r)=true):FnC Tryz.prog 78 [iv .i64 n] r:=by
 rw [Bool.and_eq_true,decide_eq_true_eq] at h;rw [← eqAV_ok h.2];exact zod n h.1.1 h.1.2
theorem atoi_fact {s:ByteArray} {r:AV} (h:(Nat.ble s.size 1000000 && eqAV (atoiE s) r)=true) (σ:Sg):ACall Tryz.prog 138 [sv s] σ (fun r' σ'=>r'=r∧σ'=σ):=by
 rw [Bool.and_eq_true] at h;have:=Nat.le_of_ble_eq_true h.1;rw [← eqAV_ok h.2];exact atoi_e s (by omega)
theorem cutp_fact {s p:ByteArray} {r:AV} (h:eqAV (.t [sv ⟨(Lib.trimPrefix s.data.toList p.data.toList).toArray⟩,bv (Lib.hasPrefix s.data.toList p.data.toList)]) r=true):FnC Tryz.prog 295 [sv s,sv p] r:=by
 rw [← eqAV_ok h];exact zql s p
theorem split_fact {s sep:ByteArray} {r:AV} (h:(Nat.ble s.size 1000000 && Nat.ble 1 sep.size && eqAV (.x (.d (.s 1 (strsPV (Lib.splitB sep 0 (Lib.countB s sep) s))))) r)=true):FnC Tryz.prog 58 [sv s,sv sep] r:=by
 simp only [Bool.and_eq_true] at h;have:=Nat.le_of_ble_eq_true h.1.1;rw [← eqAV_ok h.2];exact split_fn s sep (by omega) (Nat.le_of_ble_eq_true h.1.2)
def strsOf:List (List PV)→Option (List ByteArray)
 | []=>some []
 | [.v (.string s)]::r=>(match strsOf r with|some l=>some (s::l)|none=>none)
 | _=>none
theorem strsOf_ok:∀ {xs:List (List PV)} {l:List ByteArray},strsOf xs=some l→xs=strsPV l
 | [],l,h=>by cases h;rfl
 | x::r,l,h=>by
  match x,h with
  | [.v (.string s)],h=>
   unfold strsOf at h;split at h
   ·rename_i hr;cases h;rw [strsOf_ok hr];rfl
   ·cases h
theorem join_fact {xs:List (List PV)} {sep:ByteArray} {r:AV} (h:(match strsOf xs with|some l=>!l.isEmpty && Nat.ble l.length 1000000 && Nat.ble (Lib.join (l.map (·.data.toList)) sep.data.toList).length 1000000 && eqAV (sv ⟨(Lib.join (l.map (·.data.toList)) sep.data.toList).toArray⟩) r|none=>false)=true) :
  FnC Tryz.prog 79 [.x (.d (.s 1 xs)),sv sep] r:=by
 split at h
 ·rename_i l hl;simp only [Bool.and_eq_true] at h;have h1:=Nat.le_of_ble_eq_true h.1.1.2;have h2:=Nat.le_of_ble_eq_true h.1.2;rw [strsOf_ok hl,← eqAV_ok h.2];exact join_fn l sep (fun e=>by subst e;simp at h) (by omega) (by omega)
 ·cases h
end Go.Proofs.YtidkoikjdghlmaaGreatDoor
namespace Go.Proofs
open Go.Shelf
def Tryz.lays170_ren:Go.Shelf.Ren:=⟨fun|170=>42|n=>n,fun|0=>0|3=>3|5=>5|37=>48|70=>110|72=>112|n=>n,fun|n=>n⟩
theorem Tryz.lays170:Go.Proofs.Lays.n170 Tryz.prog Tryz.lays170_ren:={
 mixed:=by kernel_rfl
 f170:=Tryz.func42.trans (congrArg some (by kernel_rfl))
 t0:=Tryz.underlying0
 a0:=Tryz.isAgg0
 z0:=Tryz.sizeOf0
 v0:=Tryz.zeroValue0
 t3:=Tryz.underlying3
 a3:=Tryz.isAgg3
 z3:=Tryz.sizeOf3
 v3:=Tryz.zeroValue3
 t37:=Tryz.underlying48
 a37:=Tryz.isAgg48
 z37:=Tryz.sizeOf48
 v37:=Tryz.zeroValue48
 t70:=Tryz.underlying110
 a70:=Tryz.isAgg110
 z70:=Tryz.sizeOf110
 v70:=Tryz.zeroValue110
 t72:=Tryz.underlying112
 a72:=Tryz.isAgg112
 z72:=Tryz.sizeOf112
 v72:=Tryz.zeroValue112 }
end Go.Proofs
namespace Go.Proofs.YtidkoikjdghlmaaGreatDoor
open Go Go.QL Go.RowKit FoT
set_option maxHeartbeats 1600000
set_option maxRecDepth 20000
attribute [local irreducible] ACall FnC YC
theorem wstring_k (B b:Nat) (bs:List Value) (s:ByteArray) (w:World) (h:Lib.IsBuilderF 112 5 B b bs w) (hlen:bs.length+s.size≤140737488355328) (hBw:B≤w.heap.size) :
  Calls Tryz.prog 41 #[.pointer (some ⟨b,0,none⟩),.string s] w fun e w'=>e=.returned (.tuple #[.int .i64 s.size,.nilIface])∧(Lib.BuilderAtF 112 5 B b (.pointer (some ⟨b,0,none⟩)) (bs ++ Lib.strCells s) w'∧Below B w w'∧Lib.OthersKept 5 (some b) w w'):=
 Any.Builder_WriteString_k Tryz.lays166 Tryz.bx166 B b bs s w h hlen hBw
theorem bstring_k (B b:Nat) (l:List UInt8) (w:World) (h:Lib.IsBuilderF 112 5 B b (Lib.byteCells l) w) (hBw:B≤w.heap.size) :
  Calls Tryz.prog 43 #[.pointer (some ⟨b,0,none⟩)] w fun e w'=>e=.returned (.string ⟨l.toArray⟩)∧(Lib.IsBuilderF 112 5 B b (Lib.byteCells l) w'∧Below B w w'∧Lib.OthersKept 5 (some b) w w'):=
 Any.Builder_String_any_k Tryz.lays169 Tryz.bx169 B b l w h hBw
theorem blen_k (B b:Nat) (bs:List Value) (w:World) (h:Lib.IsBuilderF 112 5 B b bs w) :
  Calls Tryz.prog 42 #[.pointer (some ⟨b,0,none⟩)] w fun e w'=>e=.returned (.int .i64 bs.length)∧w'=w:=
 Any.Builder_Len_f Tryz.lays170 B b bs w h
theorem bAt_below {T e:TypeId} {B b:Nat} {p:Value} {bs:List Value} {W W':World} (h:Lib.BuilderAtF T e B b p bs W) (hb:Below W.heap.size W W'):Lib.BuilderAtF T e B b p bs W':=by
 have hlt:=h.lt;obtain⟨hB,v,hv,hown,hne⟩:=h;exact⟨hB,v,(hb.block b hlt).trans hv,hown.kept (row:=none) ⟨hb.os,hb.tape,hb.output,hb.size,fun k hk _=>hb.block k hk⟩ (Classical.em _),hne⟩
theorem isB_below {T e:TypeId} {B b:Nat} {bs:List Value} {W W':World} (h:Lib.IsBuilderF T e B b bs W) (hb:Below W.heap.size W W'):Lib.IsBuilderF T e B b bs W':=
 h.elim (fun x=>.inl (bAt_below x hb)) (fun x=>.inr (bAt_below x hb))
def StW (P:Program) (Γ:Cx) (c:Code) (Q:Exit→Fr→Sg→Prop) (fr:Fr) (σ:Sg):Prop:=AW P Γ c Q fr σ
theorem StW.at3 {P:Program} {Γ:Cx} {y:Code} {ops:Array Oper} {b:Bool} {Q:Exit→Fr→Sg→Prop} {fr:Fr} {σ:Sg} (h:StW P Γ (.seq (.region 3 ops b) y) Q fr σ):AW P Γ (.seq (.region 3 ops b) y) Q fr σ:=h
attribute [irreducible] StW
abbrev Row:=ByteArray × ByteArray
def lineB (r:Row):ByteArray:=r.1 ++ ⟨#[9]⟩ ++ r.2 ++ ⟨#[10]⟩
def textL (rows:List Row):List UInt8:=rows.flatMap fun r=>(lineB r).data.toList
def zlu (r:Row):List PV:=[.v (.string r.1),.v (.string r.2)]
theorem textL_take {rows:List Row} {i:Nat} (h:i < rows.length):textL (rows.take (i+1))=textL (rows.take i) ++ (lineB rows[i]).data.toList:=by
 unfold textL;rw [List.take_succ_eq_append_getElem h,List.flatMap_append];simp
theorem textL_le {rows:List Row} (i:Nat):(textL (rows.take i)).length≤(textL rows).length:=by
 conv=>rhs;rw [← List.take_append_drop i rows]
 unfold textL;rw [List.flatMap_append,List.length_append];omega
theorem arr38 (t:Array Value) (h:t.size=38):t = #[t.getD 0 undef,t.getD 1 undef,t.getD 2 undef,t.getD 3 undef,t.getD 4 undef,t.getD 5 undef,t.getD 6 undef,t.getD 7 undef,t.getD 8 undef,t.getD 9 undef,t.getD 10 undef,t.getD 11 undef,t.getD 12 undef,t.getD 13 undef,t.getD 14 undef,t.getD 15 undef,t.getD 16 undef,t.getD 17 undef,t.getD 18 undef,t.getD 19 undef,t.getD 20 undef,t.getD 21 undef,t.getD 22 undef,t.getD 23 undef,t.getD 24 undef,t.getD 25 undef,t.getD 26 undef,t.getD 27 undef,t.getD 28 undef,t.getD 29 undef,t.getD 30 undef,t.getD 31 undef,t.getD 32 undef,t.getD 33 undef,t.getD 34 undef,t.getD 35 undef,t.getD 36 undef,t.getD 37 undef]:=by
 have e:t.toList=List.ofFn fun i:Fin 38=>t.getD i.val undef:=by
  refine List.ext_getElem (by simp [h]) fun i h1 h2=>?_
  have hi:i < t.size:=by simpa using h1
  rw [List.getElem_ofFn];simp [Array.getD,hi]
 have e2:t=⟨List.ofFn fun i:Fin 38=>t.getD i.val undef⟩:=by rw [← e]
 exact e2.trans rfl
theorem arr38a (t:Array Value) (h:t.size=38) {a0:Value} (h0:t.getD 0 undef=a0) :
  ∃ v1 v2 v3 v4 v5 v6 v7 v8 v9 v10 v11 v12 v13 v14 v15 v16 v17 v18 v19 v20 v21 v22 v23 v24 v25 v26 v27 v28 v29 v30 v31 v32 v33 v34 v35 v36 v37,t = #[a0,v1,v2,v3,v4,v5,v6,v7,v8,v9,v10,v11,v12,v13,v14,v15,v16,v17,v18,v19,v20,v21,v22,v23,v24,v25,v26,v27,v28,v29,v30,v31,v32,v33,v34,v35,v36,v37]:=by
 subst h0;exact⟨_,_,_,_,_,_,_,_,_,_,_,_,_,_,_,_,_,_,_,_,_,_,_,_,_,_,_,_,_,_,_,_,_,_,_,_,_,arr38 t h⟩
theorem arr38b (t:Array Value) (h:t.size=38) {a4 a6 a10 a11 a12:Value} (h4:t.getD 4 undef=a4) (h6:t.getD 6 undef=a6) (h10:t.getD 10 undef=a10) (h11:t.getD 11 undef=a11) (h12:t.getD 12 undef=a12) :
  ∃ v0 v1 v2 v3 v5 v7 v8 v9 v13 v14 v15 v16 v17 v18 v19 v20 v21 v22 v23 v24 v25 v26 v27 v28 v29 v30 v31 v32 v33 v34 v35 v36 v37,t = #[v0,v1,v2,v3,a4,v5,a6,v7,v8,v9,a10,a11,a12,v13,v14,v15,v16,v17,v18,v19,v20,v21,v22,v23,v24,v25,v26,v27,v28,v29,v30,v31,v32,v33,v34,v35,v36,v37]:=by
 subst h4 h6 h10 h11 h12;exact⟨_,_,_,_,_,_,_,_,_,_,_,_,_,_,_,_,_,_,_,_,_,_,_,_,_,_,_,_,_,_,_,_,_,arr38 t h⟩
theorem arr38c (t:Array Value) (h:t.size=38) {a4:Value} (h4:t.getD 4 undef=a4) :
  ∃ v0 v1 v2 v3 v5 v6 v7 v8 v9 v10 v11 v12 v13 v14 v15 v16 v17 v18 v19 v20 v21 v22 v23 v24 v25 v26 v27 v28 v29 v30 v31 v32 v33 v34 v35 v36 v37,t = #[v0,v1,v2,v3,a4,v5,v6,v7,v8,v9,v10,v11,v12,v13,v14,v15,v16,v17,v18,v19,v20,v21,v22,v23,v24,v25,v26,v27,v28,v29,v30,v31,v32,v33,v34,v35,v36,v37]:=by
 subst h4;exact⟨_,_,_,_,_,_,_,_,_,_,_,_,_,_,_,_,_,_,_,_,_,_,_,_,_,_,_,_,_,_,_,_,_,_,_,_,_,arr38 t h⟩
def msr (n:Nat) (a:Act):Nat:=n - (match a.tmps.getD 12 undef with|.int _ m=>m.toNat|_=>0)
theorem msr_of {n i:Nat} {a:Act} (h:a.tmps.getD 12 undef=.int .i64 i):msr n a=n - i:=by
 unfold msr;rw [h];rfl
attribute [irreducible] msr
theorem plain_k {s:ByteArray} (h:FnC Tryz.prog 40 [sv s] (bv true)) (K:Nat→Nat→Prop) (w:World) (hL:Laid Tryz.prog K w) (hK:∀ b o,K b o→b < w.heap.size) :
  Calls Tryz.prog 40 #[.string s] w fun e w'=>e=.returned (.bool true)∧Below w.heap.size w w':=by
 unfold FnC at h;refine (h.2 K w #[.string s] hL hK rfl (fun i x v hx hv=>?_)).mono ?_
 ·match i with
  | 0=>cases hx;cases hv;exact zL _ rfl
  | i+1=>simp at hx
 ·rintro e w' ⟨v,K',rfl,hb,_,_,_,hv⟩;exact⟨by rw [zm hv],hb⟩
theorem arr38d (t:Array Value) (h:t.size=38) {a4 a10 a11 a12:Value} (h4:t.getD 4 undef=a4) (h10:t.getD 10 undef=a10) (h11:t.getD 11 undef=a11) (h12:t.getD 12 undef=a12) :
  ∃ v0 v1 v2 v3 v5 v6 v7 v8 v9 v13 v14 v15 v16 v17 v18 v19 v20 v21 v22 v23 v24 v25 v26 v27 v28 v29 v30 v31 v32 v33 v34 v35 v36 v37,t = #[v0,v1,v2,v3,a4,v5,v6,v7,v8,v9,a10,a11,a12,v13,v14,v15,v16,v17,v18,v19,v20,v21,v22,v23,v24,v25,v26,v27,v28,v29,v30,v31,v32,v33,v34,v35,v36,v37]:=by
 subst h4 h10 h11 h12;exact⟨_,_,_,_,_,_,_,_,_,_,_,_,_,_,_,_,_,_,_,_,_,_,_,_,_,_,_,_,_,_,_,_,_,_,arr38 t h⟩
theorem lk4 {fr:Fr} {p q r s:AV} (h4:lk 4 fr=some p) (h10:lk 10 fr=some q) (h11:lk 11 fr=some r) (h12:lk 12 fr=some s):∀ t v,lk t [(4,p),(10,q),(11,r),(12,s)]=some v→lk t fr=some v:=by
 intro t v h;simp only [zr] at h;split at h
 ·rename_i e;subst e;cases h;exact h4
 ·split at h
  ·rename_i e;subst e;cases h;exact h10
  ·split at h
   ·rename_i e;subst e;cases h;exact h11
   ·split at h
    ·rename_i e;subst e;cases h;exact h12
    ·cases h
theorem lk5 {fr:Fr} {o p q r s:AV} (h6:lk 6 fr=some o) (h4:lk 4 fr=some p) (h10:lk 10 fr=some q) (h11:lk 11 fr=some r) (h12:lk 12 fr=some s):∀ t v,lk t [(6,o),(4,p),(10,q),(11,r),(12,s)]=some v→lk t fr=some v:=by
 intro t v h;rw [zr] at h;split at h
 ·rename_i e;subst e;cases h;exact h6
 ·exact lk4 h4 h10 h11 h12 t v h
theorem write_fn (rows:List Row) (h60:rows.length≤60) (hsz:(textL rows).length≤30000)
  (hpl:∀ r ∈ rows,FnC Tryz.prog 40 [sv r.1] (bv true)∧FnC Tryz.prog 40 [sv r.2] (bv true)) :
  FnC Tryz.prog 21 [.x (.d (.s 2 (rows.map zlu)))] (.t [sv ⟨(textL rows).toArray⟩,iv .i64 0]):=by
 have hxl:(rows.map zlu).length=rows.length:=List.length_map _;have hxi:∀ i (h:i < rows.length),(rows.map zlu)[i]?=some (zlu rows[i]):=fun i h=>by simp [h]
 obtain⟨xs,hxs⟩:∃ xs,xs=rows.map zlu:=⟨_,rfl⟩;rw [← hxs] at hxl hxi ⊢;clear hxs;have hx60:xs.length≤60:=by omega
 refine zg7 hTt Tryz.func21 rfl (by kernel_rfl) (res:=[.tmp 2,.tmp 3]) rfl Tryz.ntmps21 (by simp) fun w0 K0=>?_
 dsimp only [entry];repeat' first|(with_reducible refine StW.at3 ?_)|refine zd ?_|refine zc ?_|refine zA ?_|((first|refine zf ?_|refine zB ?_|refine zk ?_|refine zi ?_|refine regA ?_|fail);conv=>whnf)|exact abA hb|(refine zsu rfl ?_)|(refine zsv rfl ?_)|(refine zso rfl (fun hb=>?_) (fun hb=>?_))|((first|refine zsq ?_|refine⟨IntKind.wrap _ _,rfl,?_⟩|refine andA ?_|with_reducible refine exA fun _=>?_|with_reducible refine And.intro (ze (And.intro (by omega) (And.intro (by first|omega|(simp only [List.length_map];omega)) (by first|omega|(simp only [List.length_map];omega)|(simp only [List.length_set,List.length_map];omega))))) ?_|with_reducible refine Exists.intro _ (And.intro (ze (zh (by omega) (by omega))) (And.intro (And.intro (Nat.le_of_ble_eq_true rfl) rfl) ?_))|with_reducible refine Exists.intro _ (And.intro (ze (And.intro (by omega) (zh (by omega) (by omega)))) ?_)|with_reducible refine And.intro (And.intro (by omega) (And.intro (by first|omega|(simp only [List.length_map];omega)) (by first|omega|(simp only [List.length_map,List.length_set];omega)))) ?_|with_reducible refine Exists.intro _ (And.intro (zh (by omega) (by omega)) (And.intro (Nat.le_of_ble_eq_true rfl) ?_))|fail);conv=>whnf)|((refine And.intro (by refine⟨?_,?_,?_⟩ <;> simp [zO,maxLen] <;> omega) ?_);conv=>whnf)|(refine lnA fun hln=>?_;conv=>whnf)|fail
 unfold StW;refine zaq (fr':=[(0,.x (.d (.s 2 xs)))]) (σ':=[]) impA ?_
 refine AW.mk fun hL g a w hr=>?_
 have f0:SR [] g w (.d (.s 2 xs)) (a.tmps.getD 0 undef):=(hr.fr 0 _ rfl).2;have hsz38:=hr.size;have hgo:=hr.hp;have hdf:=hr.defers.nil;obtain⟨tmps,dfs⟩:=a;dsimp only at hdf hsz38 f0;subst hdf;obtain⟨v0,hv0⟩:∃ v0,v0=tmps.getD 0 undef:=⟨_,rfl⟩;rw [← hv0] at f0;obtain⟨av,cap,rfl⟩:∃ av cap,v0=.slice av xs.length cap:=by
  cases f0 with
  | d _ _ h=>cases h with
   | s _ _ a cap=>exact⟨a,cap,rfl⟩
 obtain⟨v1,v2,v3,v4,v5,v6,v7,v8,v9,v10,v11,v12,v13,v14,v15,v16,v17,v18,v19,v20,v21,v22,v23,v24,v25,v26,v27,v28,v29,v30,v31,v32,v33,v34,v35,v36,v37,rfl⟩:=arr38a tmps hsz38 hv0.symm;have hL1:Laid Tryz.prog g.K w:=hL.mono hgo.ext;have hxl2:xs.length=rows.length∧True:=⟨hxl,trivial⟩;clear hxl;refine (wpIn_wide (n:=0)).2 ?_
 go_wp2
 have hxl:=hxl2.1;obtain⟨W0,hW0⟩:∃ W0,W0=w.alloc (.cells #[.pointer none,.slice none 0 0] 112):=⟨_,rfl⟩;rw [← hW0];rename_i Kk hKk;have hPR:PR g.K w (.s 2 xs) (.slice av rows.length cap):=by
  rw [← hxl];cases f0 with
  | d _ _ h=>exact h
 clear hr hsz38 hv0 hln f0;refine (wpIn_wide (n:=0)).1 ?_
 refine wpIn_loop (fun (a':Act) (w':World)=>a'.tmps.size=38∧a'.defers=[]∧a'.tmps.getD 4 undef=.pointer (some ⟨w.heap.size,0,none⟩)∧a'.tmps.getD 10 undef=.slice av rows.length cap∧a'.tmps.getD 11 undef=.int .i64 rows.length∧Below w.heap.size w w' ∧
   ∃ i:Nat,i≤rows.length∧a'.tmps.getD 12 undef=.int .i64 i∧Lib.IsBuilderF 112 5 w.heap.size w.heap.size (Lib.byteCells (textL (rows.take i))) w')
  (fun a' _=>msr rows.length a') ⟨rfl,rfl,rfl,rfl,rfl,?_,0,Nat.zero_le _,rfl,?_⟩ ?_
 ·rw [hW0];exact (Below.refl _ w).alloc (Nat.le_refl _) _
 ·rw [hW0];exact Lib.IsBuilderF.of (Lib.fresh_isBuilder 112 5 w)
 clear hW0 W0;rintro a1 w1 ⟨s1,d1,t4,t10,t11,hb1,i,hi,t12,hI⟩;obtain⟨tmps,dfs⟩:=a1;dsimp only at s1 d1 t4 t10 t11 t12;subst d1;obtain⟨v0,v1,v2,v3,v5,v6,v7,v8,v9,v13,v14,v15,v16,v17,v18,v19,v20,v21,v22,v23,v24,v25,v26,v27,v28,v29,v30,v31,v32,v33,v34,v35,v36,v37,rfl⟩:=arr38d tmps s1 t4 t10 t11 t12;clear s1 t4 t10 t11 t12 hxl2 hx60 hb;have hE:Ext g.K w g.K w1:=⟨fun _ _ h=>h,fun b o hk=>hb1.cell (hgo.val b o hk)⟩;have hL2:Laid Tryz.prog g.K w1:=hL1.mono hE;have hP1:=hPR.mono hE;by_cases hir:i < rows.length
 ·obtain⟨p1,p2⟩:=hpl rows[i] (List.getElem_mem hir);have hx:=hxi i hir;have hT:=textL_take hir;have hT2:=@textL_le rows (i+1);rw [hT,List.length_append] at hT2;unfold lineB at hT hT2;unfold zlu at hx;generalize rows[i].1=ra at *;generalize rows[i].2=rb at *;obtain⟨b0,off,rfl,hc0,hc1⟩:∃ b0 off,av=some ⟨b0,off,none⟩∧w1.cell? ⟨b0,off+i * 2,none⟩=some (.string ra)∧w1.cell? ⟨b0,off+i * 2+1,none⟩=some (.string rb):=by
   have hP2:PR g.K w1 (.s 2 xs) (.slice av xs.length cap):=by rw [hxl];exact hP1
   cases hP2 with
   | s _ _ _ _ b0 off vs hcap hmax hsz' ha hK hc hr=>
    have hne:xs≠[]:=fun e=>by rw [e] at hx;cases hx
    have h1:=zm (show VR2 [] ⟨g.K,fun _=>undef⟩ w1 (.x (.d (.v (.string ra)))) _ from SR.d _ _ (hr i _ hx 0 _ rfl));have h2:=zm (show VR2 [] ⟨g.K,fun _=>undef⟩ w1 (.x (.d (.v (.string rb)))) _ from SR.d _ _ (hr i _ hx 1 _ rfl));refine⟨b0,off,ha hne,?_,?_⟩
    ·rw [← h1];exact hc i _ hx 0 (Nat.zero_lt_succ _)
    ·rw [← h2];exact hc i _ hx 1 (Nat.lt_succ_self _)
  have hil:(i:Int) < rows.length:=by omega
  have hLq:∀ W,Below w1.heap.size w1 W→Laid Tryz.prog g.K W∧∀ b o,g.K b o→b < W.heap.size:=fun W hb=>
   ⟨hL2.mono ⟨fun _ _ h=>h,fun b o hk=>hb.cell (Nat.lt_of_lt_of_le (hgo.val b o hk) hb1.size)⟩,fun b o hk=>Nat.lt_of_lt_of_le (Nat.lt_of_lt_of_le (hgo.val b o hk) hb1.size) hb.size⟩
  have hbA:Below w1.heap.size w1 (w1.alloc (.cells #[.string ra,.string rb] 36)):=(Below.refl _ w1).alloc (Nat.le_refl _) _;have hz1:(w1.alloc (.cells #[.string ra,.string rb] 36)).heap.size=w1.heap.size+1:=by simp
  have hq1:(w1.alloc (.cells #[.string ra,.string rb] 36)).heap[w1.heap.size]?=some (.cells #[.string ra,.string rb] 36 (0,0)):=by unfold World.alloc;exact Array.getElem?_push_size
  refine (wpIn_wide (n:=0)).2 ?_
  go_wp2_with (go_at_call 40;refine (plain_k p1 g.K _ (hLq _ hbA).1 (hLq _ hbA).2).mono ?_)
  rintro _ W2 ⟨rfl,b2⟩;have hB2:Below w1.heap.size w1 W2:=hbA.trans (b2.mono (by omega));have hq2:W2.heap[w1.heap.size]?=some (.cells #[.string ra,.string rb] 36 (0,0)):=(b2.block _ (by omega)).trans hq1;have c20:W2.cell? ⟨w1.heap.size,0,none⟩=some (.string ra):=by unfold World.cell?;dsimp only;rw [hq2];rfl
  have c21:W2.cell? ⟨w1.heap.size,1,none⟩=some (.string rb):=by unfold World.cell?;dsimp only;rw [hq2];rfl
  go_wp2_with (go_at_call 40;refine (plain_k p2 g.K _ (hLq _ hB2).1 (hLq _ hB2).2).mono ?_)
  rintro _ W3 ⟨rfl,b3⟩;have hB3:Below w1.heap.size w1 W3:=hB2.trans (b3.mono hB2.size);have hz2:w1.heap.size < W2.heap.size:=by have:=b2.size;omega
  have hq3:W3.heap[w1.heap.size]?=some (.cells #[.string ra,.string rb] 36 (0,0)):=(b3.block _ hz2).trans hq2;have c30:W3.cell? ⟨w1.heap.size,0,none⟩=some (.string ra):=by unfold World.cell?;dsimp only;rw [hq3];rfl
  have c31:W3.cell? ⟨w1.heap.size,1,none⟩=some (.string rb):=by unfold World.cell?;dsimp only;rw [hq3];rfl
  have hI3:=isB_below hI hB3;have hl1:(lineB (ra,rb)).size=ra.size+rb.size+2:=by
   unfold lineB;simp only [ByteArray.size_append];have e1:(⟨#[9]⟩:ByteArray).size=1:=rfl;have e2:(⟨#[10]⟩:ByteArray).size=1:=rfl;omega
  have hl2:(lineB (ra,rb)).data.toList.length=(lineB (ra,rb)).size:=Array.length_toList;have hl3:(textL (rows.take i)).length+(ra.size+rb.size+2)≤30000:=by
   have:(textL (rows.take i)).length+(lineB (ra,rb)).data.toList.length≤(textL rows).length:=hT2;omega
  have hcall:∀ (E:Ending→World→Prop),(∀ W,Lib.BuilderAtF 112 5 w.heap.size w.heap.size (.pointer (some ⟨w.heap.size,0,none⟩)) (Lib.byteCells (textL (rows.take i)) ++ Lib.strCells (lineB (ra,rb))) W→Below w.heap.size W3 W→E (.returned (.tuple #[.int .i64 (lineB (ra,rb)).size,.nilIface])) W) →
    Calls Tryz.prog 41 #[.pointer (some ⟨w.heap.size,0,none⟩),.string (lineB (ra,rb))] W3 E:=fun E hE=>by
   refine (wstring_k w.heap.size w.heap.size _ (lineB (ra,rb)) _ hI3 (by rw [Lib.byteCells_length];omega) (by have:=hb1.size;have:=hB3.size;omega)).mono ?_
   rintro _ W ⟨rfl,h,b,_⟩;exact hE W h b
  have hszr:ra.size+rb.size+2≤30000:=by omega
  have hW3:w.heap.size≤W3.heap.size:=by have:=hb1.size;have:=hB3.size;omega
  clear b2 b3 c20 c21 hq1 hq2 hq3 hbA;go_wp2_with (go_at_call 41;refine hcall _ ?_)
  all_goals first
   | (exfalso;omega)
   | skip
  intro W4 h4 b4;go_wp2
  refine⟨⟨rfl,trivial,rfl,rfl,rfl,?_,i+1,by omega,?_,?_⟩,?_⟩
  ·exact (hb1.trans (hB3.mono hb1.size)).trans b4
  ·rfl
  ·refine .inr ?_
   have e:Lib.byteCells (textL (rows.take (i+1)))=Lib.byteCells (textL (rows.take i)) ++ Lib.strCells (lineB (ra,rb)):=by
    rw [hT];unfold Lib.byteCells;rw [List.map_append];rfl
   rw [e];exact h4
  ·rw [msr_of (i:=i+1) rfl,msr_of (i:=i) rfl];omega
 ·obtain rfl:i=rows.length:=by omega
  rw [List.take_length] at hI;have fin:∀ (a':Act) (w':World),Below w.heap.size w w'→a'.tmps.size=38→a'.tmps.getD 2 undef=.string ⟨(textL rows).toArray⟩→a'.tmps.getD 3 undef=.int .i64 0→a'.defers=[] →
    Lift (Cx.lone w0 K0 38) (zsk Tt [ResultVar.tmp 2,ResultVar.tmp 3] (.t [sv ⟨(textL rows).toArray⟩,iv .i64 0])) .ret a' w':=by
   intro a' w' hb h1 h2 h3 h4;have hw:=(hgo.weaken (σ':=[]) (fun t v h=>by cases h) rfl).grow (K':=g.K) hb ⟨fun _ _ h=>h,fun b o hk=>hb.cell (hgo.val b o hk)⟩ (fun _ _ _ h=>h) (fun b o hk=>Nat.lt_of_lt_of_le (hgo.val b o hk) hb.size);refine⟨[(2,sv ⟨(textL rows).toArray⟩),(3,iv .i64 0)],[],_,⟨hw.hp,fun t v ht=>?_,h1,by rw [h4];exact DRb.empty,fun s v h=>h.elim⟩,?_⟩
   ·rw [zr] at ht;by_cases e2:2=t
    ·subst e2;rw [if_pos rfl] at ht;cases ht;exact⟨(show 2 < 38 by decide),by rw [h2];exact zZ (zL _ rfl)⟩
    ·rw [if_neg e2,zr] at ht;by_cases e3:3=t
     ·subst e3;rw [if_pos rfl] at ht;cases ht;exact⟨(show 3 < 38 by decide),by rw [h3];exact zZ (zL _ rfl)⟩
     ·rw [if_neg e3] at ht;cases ht
   ·exact⟨_,rfl,LeAV.refl _⟩
  have hlen:(Lib.byteCells (textL rows)).length≤30000:=by rw [Lib.byteCells_length];exact hsz
  have cl:=blen_k w.heap.size w.heap.size (Lib.byteCells (textL rows)) w1 hI;have cs:=bstring_k w.heap.size w.heap.size (textL rows) w1 hI hb1.size;refine (wpIn_wide (n:=0)).2 ?_
  go_wp2_with (go_at_call 42;refine cl.mono ?_)
  rintro _ _ ⟨rfl,rfl⟩;have hlen2:¬ ((Lib.byteCells (textL rows)).length:Int) > 30000:=by omega
  go_wp2_with (go_at_call 43;refine cs.mono ?_)
  all_goals first
   | (exfalso;omega)
   | skip
  rintro _ W ⟨rfl,_,b,_⟩;go_wp2
  exact fin _ _ (hb1.trans b) rfl rfl rfl rfl
end Go.Proofs.YtidkoikjdghlmaaGreatDoor
namespace Go.Proofs.YtidkoikjdghlmaaGreatDoor
open Go Go.QL FoT
set_option maxRecDepth 1000000
def ea0:List AV:=[.a [I 1000,I 1,I 3,.d (.s 2 [[.v (.int .i64 (1000)),.v (.int .i64 (300))],[.v (.int .i64 (900)),.v (.int .i64 (500))],[.v (.int .i64 (800)),.v (.int .i64 (700))]])]]
def er0:AV:=.x (I 0)
theorem ek0:FnC Tryz.prog 28 ea0 er0:=evF0 (M:=[]) (by kernel_rfl) (by kernel_rfl)
def ef0:Fact Tryz.prog:=⟨28,ea0,er0,fun σ=>ek0.call (by kernel_rfl) (by kernel_rfl)⟩
def ea1:List AV:=[.a [I 10,I 2,I 1,I 30,I 5,.d (.s 1 [[.v (.string ⟨#[97,110,110]⟩)],[.v (.string ⟨#[98,111]⟩)]]),.d (.s 4 [[.v (.int .i64 (1000)),.v (.int .i64 (1)),.v (.int .i64 (3)),.s 2 [[.v (.int .i64 (1000)),.v (.int .i64 (300))],[.v (.int .i64 (900)),.v (.int .i64 (500))],[.v (.int .i64 (800)),.v (.int .i64 (700))]]]])]]
def er1:AV:=.t [.x (I 0),.x (I 0),.x (I 0)]
theorem ek1:FnC Tryz.prog 7 ea1 er1:=evF0 (M:=[ef0]) (by kernel_rfl) (by kernel_rfl)
def ef1:Fact Tryz.prog:=⟨7,ea1,er1,fun σ=>ek1.call (by kernel_rfl) (by kernel_rfl)⟩
def ea2:List AV:=[.x (.d (.v (.string ⟨#[106,111,98,32,102,32,97,110,110,32,56,32,97,42,40,98,45,48,46,50,53,41,43,98,32,52,49,57,52,51,48,52,32,52,49,57,52,51,48,52]⟩))),.x (.d (.v (.string ⟨#[32]⟩)))]
def er2:AV:=.x (.d (.s 1 [[.v (.string ⟨#[106,111,98]⟩)],[.v (.string ⟨#[102]⟩)],[.v (.string ⟨#[97,110,110]⟩)],[.v (.string ⟨#[56]⟩)],[.v (.string ⟨#[97,42,40,98,45,48,46,50,53,41,43,98]⟩)],[.v (.string ⟨#[52,49,57,52,51,48,52]⟩)],[.v (.string ⟨#[52,49,57,52,51,48,52]⟩)]]))
theorem ek2:FnC Tryz.prog 58 ea2 er2:=split_fact (by kernel_rfl)
def ef2:Fact Tryz.prog:=⟨58,ea2,er2,fun σ=>ek2.call (by kernel_rfl) (by kernel_rfl)⟩
def ea3:List AV:=[.x (.d (.v (.string ⟨#[56]⟩)))]
def er3:AV:=.t [.x (I 8),.x (.d (.v (.nilIface)))]
def ef3:Fact Tryz.prog:=⟨138,ea3,er3,atoi_fact (by kernel_rfl)⟩
def ea4:List AV:=[.x (I 8)]
def er4:AV:=.x (.d (.v (.string ⟨#[56]⟩)))
theorem ek4:FnC Tryz.prog 78 ea4 er4:=itoa_fact (by kernel_rfl)
def ef4:Fact Tryz.prog:=⟨78,ea4,er4,fun σ=>ek4.call (by kernel_rfl) (by kernel_rfl)⟩
def ea5:List AV:=[.x (.d (.v (.string ⟨#[52,49,57,52,51,48,52]⟩)))]
def er5:AV:=.t [.x (I 4194304),.x (.d (.v (.nilIface)))]
def ef5:Fact Tryz.prog:=⟨138,ea5,er5,atoi_fact (by kernel_rfl)⟩
def ea6:List AV:=[.x (I 4194304)]
def er6:AV:=.x (.d (.v (.string ⟨#[52,49,57,52,51,48,52]⟩)))
theorem ek6:FnC Tryz.prog 78 ea6 er6:=itoa_fact (by kernel_rfl)
def ef6:Fact Tryz.prog:=⟨78,ea6,er6,fun σ=>ek6.call (by kernel_rfl) (by kernel_rfl)⟩
def ea7:List AV:=[.x (.d (.v (.string ⟨#[97]⟩))),.x (.d (.v (.string ⟨#[48,46]⟩)))]
def er7:AV:=.t [.x (.d (.v (.string ⟨#[97]⟩))),.x (.d (.v (.bool false)))]
theorem ek7:FnC Tryz.prog 295 ea7 er7:=cutp_fact (by kernel_rfl)
def ef7:Fact Tryz.prog:=⟨295,ea7,er7,fun σ=>ek7.call (by kernel_rfl) (by kernel_rfl)⟩
def ea8:List AV:=[.x (.d (.v (.string ⟨#[97]⟩)))]
def er8:AV:=.t [.x (I 0),.x (.d (.e))]
def ef8:Fact Tryz.prog:=⟨138,ea8,er8,atoi_fact (by kernel_rfl)⟩
def ea9:List AV:=[.x (.d (.v (.string ⟨#[98]⟩))),.x (.d (.v (.string ⟨#[48,46]⟩)))]
def er9:AV:=.t [.x (.d (.v (.string ⟨#[98]⟩))),.x (.d (.v (.bool false)))]
theorem ek9:FnC Tryz.prog 295 ea9 er9:=cutp_fact (by kernel_rfl)
def ef9:Fact Tryz.prog:=⟨295,ea9,er9,fun σ=>ek9.call (by kernel_rfl) (by kernel_rfl)⟩
def ea10:List AV:=[.x (.d (.v (.string ⟨#[98]⟩)))]
def er10:AV:=.t [.x (I 0),.x (.d (.e))]
def ef10:Fact Tryz.prog:=⟨138,ea10,er10,atoi_fact (by kernel_rfl)⟩
def ea11:List AV:=[.x (.d (.v (.string ⟨#[48,46,50,53]⟩))),.x (.d (.v (.string ⟨#[48,46]⟩)))]
def er11:AV:=.t [.x (.d (.v (.string ⟨#[50,53]⟩))),.x (.d (.v (.bool true)))]
theorem ek11:FnC Tryz.prog 295 ea11 er11:=cutp_fact (by kernel_rfl)
def ef11:Fact Tryz.prog:=⟨295,ea11,er11,fun σ=>ek11.call (by kernel_rfl) (by kernel_rfl)⟩
def ea12:List AV:=[.x (.d (.v (.string ⟨#[50,53]⟩)))]
def er12:AV:=.t [.x (I 25),.x (.d (.v (.nilIface)))]
def ef12:Fact Tryz.prog:=⟨138,ea12,er12,atoi_fact (by kernel_rfl)⟩
def ea13:List AV:=[.x (.d (.v (.string ⟨#[97,42,40,98,45,48,46,50,53,41,43,98]⟩)))]
def er13:AV:=.t [.a [.d (.s 1 [[.v (.string ⟨#[97]⟩)],[.v (.string ⟨#[98]⟩)]]),.d (.s 4 [[.v (.int .i64 (1)),.v (.int .i64 (0)),.v (.int .i64 (0)),.v (.int .i64 (0))],[.v (.int .i64 (1)),.v (.int .i64 (1)),.v (.int .i64 (0)),.v (.int .i64 (0))],[.v (.int .i64 (2)),.v (.int .i64 (0)),.v (.int .i64 (25)),.v (.int .i64 (2))],[.v (.int .i64 (4)),.v (.int .i64 (0)),.v (.int .i64 (0)),.v (.int .i64 (0))],[.v (.int .i64 (5)),.v (.int .i64 (0)),.v (.int .i64 (0)),.v (.int .i64 (0))],[.v (.int .i64 (1)),.v (.int .i64 (1)),.v (.int .i64 (0)),.v (.int .i64 (0))],[.v (.int .i64 (3)),.v (.int .i64 (0)),.v (.int .i64 (0)),.v (.int .i64 (0))]])],.x (I 0),.x (I 0)]
theorem ek13:FnC Tryz.prog 83 ea13 er13:=evF0 (M:=[ef7,ef8,ef9,ef10,ef11,ef12]) (by kernel_rfl) (by kernel_rfl)
def ef13:Fact Tryz.prog:=⟨83,ea13,er13,fun σ=>ek13.call (by kernel_rfl) (by kernel_rfl)⟩
def ea14:List AV:=[.a [.d (.s 1 [[.v (.string ⟨#[97]⟩)],[.v (.string ⟨#[98]⟩)]]),.d (.s 4 [[.v (.int .i64 (1)),.v (.int .i64 (0)),.v (.int .i64 (0)),.v (.int .i64 (0))],[.v (.int .i64 (1)),.v (.int .i64 (1)),.v (.int .i64 (0)),.v (.int .i64 (0))],[.v (.int .i64 (2)),.v (.int .i64 (0)),.v (.int .i64 (25)),.v (.int .i64 (2))],[.v (.int .i64 (4)),.v (.int .i64 (0)),.v (.int .i64 (0)),.v (.int .i64 (0))],[.v (.int .i64 (5)),.v (.int .i64 (0)),.v (.int .i64 (0)),.v (.int .i64 (0))],[.v (.int .i64 (1)),.v (.int .i64 (1)),.v (.int .i64 (0)),.v (.int .i64 (0))],[.v (.int .i64 (3)),.v (.int .i64 (0)),.v (.int .i64 (0)),.v (.int .i64 (0))]])]]
def er14:AV:=.x (I 0)
theorem ek14:FnC Tryz.prog 122 ea14 er14:=evF0 (M:=[]) (by kernel_rfl) (by kernel_rfl)
def ef14:Fact Tryz.prog:=⟨122,ea14,er14,fun σ=>ek14.call (by kernel_rfl) (by kernel_rfl)⟩
def ea15:List AV:=[.a [.d (.s 1 [[.v (.string ⟨#[97]⟩)],[.v (.string ⟨#[98]⟩)]]),.d (.s 4 [[.v (.int .i64 (1)),.v (.int .i64 (0)),.v (.int .i64 (0)),.v (.int .i64 (0))],[.v (.int .i64 (1)),.v (.int .i64 (1)),.v (.int .i64 (0)),.v (.int .i64 (0))],[.v (.int .i64 (2)),.v (.int .i64 (0)),.v (.int .i64 (25)),.v (.int .i64 (2))],[.v (.int .i64 (4)),.v (.int .i64 (0)),.v (.int .i64 (0)),.v (.int .i64 (0))],[.v (.int .i64 (5)),.v (.int .i64 (0)),.v (.int .i64 (0)),.v (.int .i64 (0))],[.v (.int .i64 (1)),.v (.int .i64 (1)),.v (.int .i64 (0)),.v (.int .i64 (0))],[.v (.int .i64 (3)),.v (.int .i64 (0)),.v (.int .i64 (0)),.v (.int .i64 (0))]])]]
def er15:AV:=.t [.a [.d (.s 1 [i 12584321,i 12584450,i 2279171,i 2295684,i 2312197,i 6555526,i 8636167,i 2295688,i 4441865,i 14909450,i 0,i 0,i 0,i 2097152,i 0,i 0,i 0]),I 0,I 11],.x (I 0)]
theorem ek15:FnC Tryz.prog 86 ea15 er15:=evF0 (M:=[ef14]) (by kernel_rfl) (by kernel_rfl)
def ef15:Fact Tryz.prog:=⟨86,ea15,er15,fun σ=>ek15.call (by kernel_rfl) (by kernel_rfl)⟩
def ea16:List AV:=[.x (I 16777215),.x (.d (.s 1 [i 12584321,i 12584450,i 2279171,i 2295684,i 2312197,i 6555526,i 8636167,i 2295688,i 4441865,i 14909450,i 0,i 0,i 0,i 2097152,i 0,i 0,i 0]))]
def er16:AV:=.x (.d (.v (.bool false)))
theorem ek16:FnC Tryz.prog 178 ea16 er16:=evF0 (M:=[]) (by kernel_rfl) (by kernel_rfl)
def ef16:Fact Tryz.prog:=⟨178,ea16,er16,fun σ=>ek16.call (by kernel_rfl) (by kernel_rfl)⟩
def ea17:List AV:=[.a [.d (.s 1 [i 12584321,i 12584450,i 2279171,i 2295684,i 2312197,i 6555526,i 8636167,i 2295688,i 4441865,i 14909450,i 0,i 0,i 0,i 2097152,i 0,i 0,i 0,i 0,i 0,i 0,i 0,i 0,i 0,i 0,i 0,i 0,i 0,i 0,i 0,i 0,i 0,i 0,i 0,i 0,i 0,i 0,i 0,i 0,i 0,i 0,i 0,i 0,i 0,i 0,i 0,i 0,i 0,i 0,i 0,i 0,i 0,i 0,i 0,i 0,i 0,i 0,i 0,i 0,i 0,i 0,i 0,i 0,i 0,i 0,i 0,i 0,i 0,i 0,i 0,i 0,i 0,i 0,i 0,i 0,i 0,i 0,i 0,i 0,i 0,i 0,i 0,i 0,i 0,i 0,i 0,i 0,i 0,i 0,i 0,i 0,i 0,i 0,i 0,i 0,i 0,i 0,i 0,i 0,i 0,i 0,i 0,i 0,i 0,i 0,i 0,i 0,i 0,i 0,i 0,i 0,i 0,i 0,i 0,i 0,i 0,i 0,i 0,i 0,i 0,i 0,i 0,i 0,i 0,i 0,i 0,i 0,i 0,i 0]),.d (.s 1 [i 4194304,i 4194304]),I 0,.d (.v (.slice none 0 0)),I 0,I 0,I 0,I 0],.x (I 5000)]
def er17:AV:=.t [.a [.d (.s 1 [i 12584321,i 12584450,i 2279171,i 2295684,i 2312197,i 6555526,i 8636167,i 2295688,i 4441865,i 14909450,i 0,i 4194304,i 4194304,i 2097152,i 5242880,i 4194304,i 2097152,i 0,i 0,i 0,i 0,i 0,i 0,i 0,i 0,i 0,i 0,i 0,i 0,i 0,i 0,i 0,i 0,i 0,i 0,i 0,i 0,i 0,i 0,i 0,i 0,i 0,i 0,i 0,i 0,i 0,i 0,i 0,i 0,i 0,i 0,i 0,i 0,i 0,i 0,i 0,i 0,i 0,i 0,i 0,i 0,i 0,i 0,i 0,i 0,i 0,i 0,i 0,i 0,i 0,i 0,i 0,i 0,i 0,i 0,i 0,i 0,i 0,i 0,i 0,i 0,i 0,i 0,i 0,i 0,i 0,i 0,i 0,i 0,i 0,i 0,i 0,i 0,i 0,i 0,i 0,i 0,i 0,i 0,i 0,i 0,i 0,i 0,i 0,i 0,i 0,i 0,i 0,i 0,i 0,i 0,i 0,i 0,i 0,i 0,i 0,i 0,i 0,i 0,i 0,i 0,i 0,i 0,i 0,i 0,i 0,i 0,i 0]),.d (.s 1 [i 4194304,i 4194304]),I 2,.d (.s 1 [i 5242880]),I 234,I 10,I 10,I 1],.x (I 0)]
theorem ek17:FnC Tryz.prog 105 ea17 er17:=run_fact (by kernel_rfl)
def ef17:Fact Tryz.prog:=⟨105,ea17,er17,fun σ=>ek17.call (by kernel_rfl) (by kernel_rfl)⟩
def ea18:List AV:=[.x (.d (.v (.string ⟨#[99,97,108,108,32,114,32,98,111,32,50,48,32,114,111,111,116,32,50,48,57,55,49,53,50]⟩))),.x (.d (.v (.string ⟨#[32]⟩)))]
def er18:AV:=.x (.d (.s 1 [[.v (.string ⟨#[99,97,108,108]⟩)],[.v (.string ⟨#[114]⟩)],[.v (.string ⟨#[98,111]⟩)],[.v (.string ⟨#[50,48]⟩)],[.v (.string ⟨#[114,111,111,116]⟩)],[.v (.string ⟨#[50,48,57,55,49,53,50]⟩)]]))
theorem ek18:FnC Tryz.prog 58 ea18 er18:=split_fact (by kernel_rfl)
def ef18:Fact Tryz.prog:=⟨58,ea18,er18,fun σ=>ek18.call (by kernel_rfl) (by kernel_rfl)⟩
def ea19:List AV:=[.x (.d (.v (.string ⟨#[50,48]⟩)))]
def er19:AV:=.t [.x (I 20),.x (.d (.v (.nilIface)))]
def ef19:Fact Tryz.prog:=⟨138,ea19,er19,atoi_fact (by kernel_rfl)⟩
def ea20:List AV:=[.x (I 20)]
def er20:AV:=.x (.d (.v (.string ⟨#[50,48]⟩)))
theorem ek20:FnC Tryz.prog 78 ea20 er20:=itoa_fact (by kernel_rfl)
def ef20:Fact Tryz.prog:=⟨78,ea20,er20,fun σ=>ek20.call (by kernel_rfl) (by kernel_rfl)⟩
def ea21:List AV:=[.x (.d (.v (.string ⟨#[50,48,57,55,49,53,50]⟩)))]
def er21:AV:=.t [.x (I 2097152),.x (.d (.v (.nilIface)))]
def ef21:Fact Tryz.prog:=⟨138,ea21,er21,atoi_fact (by kernel_rfl)⟩
def ea22:List AV:=[.x (I 2097152)]
def er22:AV:=.x (.d (.v (.string ⟨#[50,48,57,55,49,53,50]⟩)))
theorem ek22:FnC Tryz.prog 78 ea22 er22:=itoa_fact (by kernel_rfl)
def ef22:Fact Tryz.prog:=⟨78,ea22,er22,fun σ=>ek22.call (by kernel_rfl) (by kernel_rfl)⟩
end Go.Proofs.YtidkoikjdghlmaaGreatDoor
namespace Go.Proofs.YtidkoikjdghlmaaGreatDoor
open Go Go.QL FoT
set_option maxRecDepth 1000000
def ea23:List AV:=[.x (I 1)]
def er23:AV:=.t [.a [.d (.s 1 [i 2345473,i 6588674,i 2394499,i 4524420,i 2411141,i 8702598,i 6572679,i 6556296,i 10830986,i 2410762,i 8636939,i 2427532,i 6556301,i 10831618,i 0,i 4194304,i 1,i 0,i 0,i 0,i 0,i 0]),.d (.s 1 [i 7,i 7,i 7,i 7,i 7,i 7,i 7,i 7,i 7,i 7,i 7,i 7,i 7,i 7,i 0,i 0,i 0,i 0,i 0,i 0,i 0,i 0]),I 0,I 14,I 18,.d (.s 1 [i 17])],.x (I 0)]
theorem ek23:FnC Tryz.prog 89 ea23 er23:=evF0 (M:=[]) (by kernel_rfl) (by kernel_rfl)
def ef23:Fact Tryz.prog:=⟨89,ea23,er23,fun σ=>ek23.call (by kernel_rfl) (by kernel_rfl)⟩
def ea24:List AV:=[.x (.d (.s 1 [i 2345473,i 6588674,i 2394499,i 4524420,i 2411141,i 8702598,i 6572679,i 6556296,i 10830986,i 2410762,i 8636939,i 2427532,i 6556301,i 10831618,i 0,i 4194304,i 1,i 0,i 0,i 0,i 0,i 0])),.x (.f (.func 239) [] [])]
def er24:AV:=.x (I (-1))
theorem ek24:FnC Tryz.prog 112 ea24 er24:=evF0 (M:=[]) (by kernel_rfl) (by kernel_rfl)
def ef24:Fact Tryz.prog:=⟨112,ea24,er24,fun σ=>ek24.call (by kernel_rfl) (by kernel_rfl)⟩
def ea25:List AV:=[.x (.d (.s 1 [i 7,i 7,i 7,i 7,i 7,i 7,i 7,i 7,i 7,i 7,i 7,i 7,i 7,i 7,i 0,i 0,i 0,i 0,i 0,i 0,i 0,i 0])),.x (.f (.func 240) [] [])]
def er25:AV:=.x (I (-1))
theorem ek25:FnC Tryz.prog 112 ea25 er25:=evF0 (M:=[]) (by kernel_rfl) (by kernel_rfl)
def ef25:Fact Tryz.prog:=⟨112,ea25,er25,fun σ=>ek25.call (by kernel_rfl) (by kernel_rfl)⟩
end Go.Proofs.YtidkoikjdghlmaaGreatDoor
namespace Go.Proofs.YtidkoikjdghlmaaGreatDoor
open Go Go.QL FoT
set_option maxRecDepth 1000000
def ea26:List AV:=[.a [.d (.s 1 [i 2345473,i 6588674,i 2394499,i 4524420,i 2411141,i 8702598,i 6572679,i 6556296,i 10830986,i 2410762,i 8636939,i 2427532,i 6556301,i 10831618,i 0,i 4194304,i 1,i 0,i 0,i 0,i 0,i 0]),.d (.s 1 [i 7,i 7,i 7,i 7,i 7,i 7,i 7,i 7,i 7,i 7,i 7,i 7,i 7,i 7,i 0,i 0,i 0,i 0,i 0,i 0,i 0,i 0]),I 0,I 14,I 18,.d (.s 1 [i 17])],.x (I 9)]
def er26:AV:=.x (.d (.s 1 [i 2494090,i 6737291,i 2543116,i 4673037,i 2559758,i 8851215,i 6721296,i 6704913,i 10979603,i 2559379,i 8785556,i 2576149,i 6704918,i 10980235,i 0,i 4194304,i 1,i 0,i 0,i 0,i 0,i 0]))
theorem ek26:FnC Tryz.prog 135 ea26 er26:=evF0 (M:=[]) (by kernel_rfl) (by kernel_rfl)
def ef26:Fact Tryz.prog:=⟨135,ea26,er26,fun σ=>ek26.call (by kernel_rfl) (by kernel_rfl)⟩
def ea27:List AV:=[.x (.d (.v (.string ⟨#[114,111,111,116]⟩))),.x (.d (.s 1 [i 2097152]))]
def er27:AV:=.a [.d (.s 1 [i 12583809,i 2215170,i 2198409,i 2540548,i 14811141,i 0,i 2097155,i 0,i 0,i 2494090,i 6737291,i 2543116,i 4673037,i 2559758,i 8851215,i 6721296,i 6704913,i 10979603,i 2559379,i 8785556,i 2576149,i 6704918,i 10980235,i 0,i 4194304,i 1,i 0,i 0,i 0,i 0,i 0]),I 0,I 6]
theorem ek27:FnC Tryz.prog 87 ea27 er27:=evF0 (M:=[ef23,ef24,ef25,ef26]) (by kernel_rfl) (by kernel_rfl)
def ef27:Fact Tryz.prog:=⟨87,ea27,er27,fun σ=>ek27.call (by kernel_rfl) (by kernel_rfl)⟩
def ea28:List AV:=[.x (I 16777215),.x (.d (.s 1 [i 12583809,i 2215170,i 2198409,i 2540548,i 14811141,i 0,i 2097155,i 0,i 0,i 2494090,i 6737291,i 2543116,i 4673037,i 2559758,i 8851215,i 6721296,i 6704913,i 10979603,i 2559379,i 8785556,i 2576149,i 6704918,i 10980235,i 0,i 4194304,i 1,i 0,i 0,i 0,i 0,i 0]))]
def er28:AV:=.x (.d (.v (.bool false)))
theorem ek28:FnC Tryz.prog 178 ea28 er28:=evF0 (M:=[]) (by kernel_rfl) (by kernel_rfl)
def ef28:Fact Tryz.prog:=⟨178,ea28,er28,fun σ=>ek28.call (by kernel_rfl) (by kernel_rfl)⟩
def ea29:List AV:=[.a [.d (.s 1 [i 12583809,i 2215170,i 2198409,i 2540548,i 14811141,i 0,i 2097155,i 0,i 0,i 2494090,i 6737291,i 2543116,i 4673037,i 2559758,i 8851215,i 6721296,i 6704913,i 10979603,i 2559379,i 8785556,i 2576149,i 6704918,i 10980235,i 0,i 4194304,i 1,i 0,i 0,i 0,i 0,i 0,i 0,i 0,i 0,i 0,i 0,i 0,i 0,i 0,i 0,i 0,i 0,i 0,i 0,i 0,i 0,i 0,i 0,i 0,i 0,i 0,i 0,i 0,i 0,i 0,i 0,i 0,i 0,i 0,i 0,i 0,i 0,i 0,i 0,i 0,i 0,i 0,i 0,i 0,i 0,i 0,i 0,i 0,i 0,i 0,i 0,i 0,i 0,i 0,i 0,i 0,i 0,i 0,i 0,i 0,i 0,i 0,i 0,i 0,i 0,i 0,i 0,i 0,i 0,i 0,i 0,i 0,i 0,i 0,i 0,i 0,i 0,i 0,i 0,i 0,i 0,i 0,i 0,i 0,i 0,i 0,i 0,i 0,i 0,i 0,i 0,i 0,i 0,i 0,i 0,i 0,i 0,i 0,i 0,i 0,i 0,i 0,i 0]),.d (.s 1 [i 2097152]),I 0,.d (.v (.slice none 0 0)),I 0,I 0,I 0,I 0],.x (I 5000)]
def er29:AV:=.t [.a [.d (.s 1 [i 12583809,i 2215170,i 2198409,i 2540548,i 14811141,i 0,i 2097155,i 2097152,i 4194304,i 2494090,i 6737291,i 2543116,i 4673037,i 2559758,i 8851215,i 6721296,i 6704913,i 10979603,i 2559379,i 8785556,i 2576149,i 6704918,i 10980235,i 2097155,i 4194304,i 1,i 2097152,i 4194304,i 4194305,i 0,i 16777215,i 0,i 0,i 0,i 0,i 0,i 0,i 0,i 0,i 0,i 0,i 0,i 0,i 0,i 0,i 0,i 0,i 0,i 0,i 0,i 0,i 0,i 0,i 0,i 0,i 0,i 0,i 0,i 0,i 0,i 0,i 0,i 0,i 0,i 0,i 0,i 0,i 0,i 0,i 0,i 0,i 0,i 0,i 0,i 0,i 0,i 0,i 0,i 0,i 0,i 0,i 0,i 0,i 0,i 0,i 0,i 0,i 0,i 0,i 0,i 0,i 0,i 0,i 0,i 0,i 0,i 0,i 0,i 0,i 0,i 0,i 0,i 0,i 0,i 0,i 0,i 0,i 0,i 0,i 0,i 0,i 0,i 0,i 0,i 0,i 0,i 0,i 0,i 0,i 0,i 0,i 0,i 0,i 0,i 0,i 0,i 0,i 0]),.d (.s 1 [i 2097152]),I 1,.d (.s 1 [i 4194304]),I 6101,I 5,I 262,I 1],.x (I 0)]
theorem ek29:FnC Tryz.prog 105 ea29 er29:=run_fact (by kernel_rfl)
def ef29:Fact Tryz.prog:=⟨105,ea29,er29,fun σ=>ek29.call (by kernel_rfl) (by kernel_rfl)⟩
end Go.Proofs.YtidkoikjdghlmaaGreatDoor
namespace Go.Proofs.YtidkoikjdghlmaaGreatDoor
open Go Go.QL FoT
set_option maxRecDepth 1000000
def ea30:List AV:=[.x (.d (.v (.string ⟨#[106,111,98,32,102,32,97,110,110,32,56,32,97,32,53]⟩))),.x (.d (.v (.string ⟨#[32]⟩)))]
def er30:AV:=.x (.d (.s 1 [[.v (.string ⟨#[106,111,98]⟩)],[.v (.string ⟨#[102]⟩)],[.v (.string ⟨#[97,110,110]⟩)],[.v (.string ⟨#[56]⟩)],[.v (.string ⟨#[97]⟩)],[.v (.string ⟨#[53]⟩)]]))
theorem ek30:FnC Tryz.prog 58 ea30 er30:=split_fact (by kernel_rfl)
def ef30:Fact Tryz.prog:=⟨58,ea30,er30,fun σ=>ek30.call (by kernel_rfl) (by kernel_rfl)⟩
def ea31:List AV:=[.x (.d (.v (.string ⟨#[53]⟩)))]
def er31:AV:=.t [.x (I 5),.x (.d (.v (.nilIface)))]
def ef31:Fact Tryz.prog:=⟨138,ea31,er31,atoi_fact (by kernel_rfl)⟩
def ea32:List AV:=[.x (I 5)]
def er32:AV:=.x (.d (.v (.string ⟨#[53]⟩)))
theorem ek32:FnC Tryz.prog 78 ea32 er32:=itoa_fact (by kernel_rfl)
def ef32:Fact Tryz.prog:=⟨78,ea32,er32,fun σ=>ek32.call (by kernel_rfl) (by kernel_rfl)⟩
def ea33:List AV:=[.x (.d (.s 1 [[.v (.string ⟨#[101,114,114,111,114]⟩)],[.v (.string ⟨#[53]⟩)]])),.x (.d (.v (.string ⟨#[32]⟩)))]
def er33:AV:=.x (.d (.v (.string ⟨#[101,114,114,111,114,32,53]⟩)))
theorem ek33:FnC Tryz.prog 79 ea33 er33:=join_fact (by kernel_rfl)
def ef33:Fact Tryz.prog:=⟨79,ea33,er33,fun σ=>ek33.call (by kernel_rfl) (by kernel_rfl)⟩
def ea34:List AV:=[.x (.d (.v (.string ⟨#[114,117,110,32,49]⟩))),.x (.d (.v (.string ⟨#[32]⟩)))]
def er34:AV:=.x (.d (.s 1 [[.v (.string ⟨#[114,117,110]⟩)],[.v (.string ⟨#[49]⟩)]]))
theorem ek34:FnC Tryz.prog 58 ea34 er34:=split_fact (by kernel_rfl)
def ef34:Fact Tryz.prog:=⟨58,ea34,er34,fun σ=>ek34.call (by kernel_rfl) (by kernel_rfl)⟩
def ea35:List AV:=[.x (.d (.v (.string ⟨#[49]⟩)))]
def er35:AV:=.t [.x (I 1),.x (.d (.v (.nilIface)))]
def ef35:Fact Tryz.prog:=⟨138,ea35,er35,atoi_fact (by kernel_rfl)⟩
def ea36:List AV:=[.x (I 1)]
def er36:AV:=.x (.d (.v (.string ⟨#[49]⟩)))
theorem ek36:FnC Tryz.prog 78 ea36 er36:=itoa_fact (by kernel_rfl)
def ef36:Fact Tryz.prog:=⟨78,ea36,er36,fun σ=>ek36.call (by kernel_rfl) (by kernel_rfl)⟩
def ea37:List AV:=[.a [I 10,I 2,I 1,I 30,I 5,.d (.s 4 [[.v (.string ⟨#[102]⟩),.v (.int .i64 (0)),.v (.int .i64 (8)),.v (.int .i64 (1))],[.v (.string ⟨#[114]⟩),.v (.int .i64 (0)),.v (.int .i64 (20)),.v (.int .i64 (27))]]),.d (.v (.slice none 0 0))]]
def er37:AV:=.t [.x (I 0),.x (I 0),.x (I 0)]
theorem ek37:FnC Tryz.prog 24 ea37 er37:=evF0 (M:=[]) (by kernel_rfl) (by kernel_rfl)
def ef37:Fact Tryz.prog:=⟨24,ea37,er37,fun σ=>ek37.call (by kernel_rfl) (by kernel_rfl)⟩
def ea38:List AV:=[.x (I 3)]
def er38:AV:=.x (.d (.v (.string ⟨#[51]⟩)))
theorem ek38:FnC Tryz.prog 78 ea38 er38:=itoa_fact (by kernel_rfl)
def ef38:Fact Tryz.prog:=⟨78,ea38,er38,fun σ=>ek38.call (by kernel_rfl) (by kernel_rfl)⟩
def ea39:List AV:=[.x (I 5242880)]
def er39:AV:=.x (.d (.v (.string ⟨#[53,50,52,50,56,56,48]⟩)))
theorem ek39:FnC Tryz.prog 78 ea39 er39:=itoa_fact (by kernel_rfl)
def ef39:Fact Tryz.prog:=⟨78,ea39,er39,fun σ=>ek39.call (by kernel_rfl) (by kernel_rfl)⟩
def ea40:List AV:=[.x (.d (.s 1 [[.v (.string ⟨#[97,116]⟩)],[.v (.string ⟨#[51]⟩)],[.v (.string ⟨#[102]⟩)],[.v (.string ⟨#[53,50,52,50,56,56,48]⟩)]])),.x (.d (.v (.string ⟨#[32]⟩)))]
def er40:AV:=.x (.d (.v (.string ⟨#[97,116,32,51,32,102,32,53,50,52,50,56,56,48]⟩)))
theorem ek40:FnC Tryz.prog 79 ea40 er40:=join_fact (by kernel_rfl)
def ef40:Fact Tryz.prog:=⟨79,ea40,er40,fun σ=>ek40.call (by kernel_rfl) (by kernel_rfl)⟩
def ea41:List AV:=[.x (.d (.v (.string ⟨#[100,117,109,112,32,102,32,52]⟩))),.x (.d (.v (.string ⟨#[32]⟩)))]
def er41:AV:=.x (.d (.s 1 [[.v (.string ⟨#[100,117,109,112]⟩)],[.v (.string ⟨#[102]⟩)],[.v (.string ⟨#[52]⟩)]]))
theorem ek41:FnC Tryz.prog 58 ea41 er41:=split_fact (by kernel_rfl)
def ef41:Fact Tryz.prog:=⟨58,ea41,er41,fun σ=>ek41.call (by kernel_rfl) (by kernel_rfl)⟩
def ea42:List AV:=[.x (.d (.v (.string ⟨#[52]⟩)))]
def er42:AV:=.t [.x (I 4),.x (.d (.v (.nilIface)))]
def ef42:Fact Tryz.prog:=⟨138,ea42,er42,atoi_fact (by kernel_rfl)⟩
def ea43:List AV:=[.x (I 4)]
def er43:AV:=.x (.d (.v (.string ⟨#[52]⟩)))
theorem ek43:FnC Tryz.prog 78 ea43 er43:=itoa_fact (by kernel_rfl)
def ef43:Fact Tryz.prog:=⟨78,ea43,er43,fun σ=>ek43.call (by kernel_rfl) (by kernel_rfl)⟩
def ea44:List AV:=[.a [.d (.s 1 [i 12584321,i 12584450,i 2279171,i 2295684,i 2312197,i 6555526,i 8636167,i 2295688,i 4441865,i 14909450,i 0,i 0,i 0,i 2097152,i 0,i 0,i 0,i 0,i 0,i 0,i 0,i 0,i 0,i 0,i 0,i 0,i 0,i 0,i 0,i 0,i 0,i 0,i 0,i 0,i 0,i 0,i 0,i 0,i 0,i 0,i 0,i 0,i 0,i 0,i 0,i 0,i 0,i 0,i 0,i 0,i 0,i 0,i 0,i 0,i 0,i 0,i 0,i 0,i 0,i 0,i 0,i 0,i 0,i 0,i 0,i 0,i 0,i 0,i 0,i 0,i 0,i 0,i 0,i 0,i 0,i 0,i 0,i 0,i 0,i 0,i 0,i 0,i 0,i 0,i 0,i 0,i 0,i 0,i 0,i 0,i 0,i 0,i 0,i 0,i 0,i 0,i 0,i 0,i 0,i 0,i 0,i 0,i 0,i 0,i 0,i 0,i 0,i 0,i 0,i 0,i 0,i 0,i 0,i 0,i 0,i 0,i 0,i 0,i 0,i 0,i 0,i 0,i 0,i 0,i 0,i 0,i 0,i 0]),.d (.s 1 [i 4194304,i 4194304]),I 0,.d (.v (.slice none 0 0)),I 0,I 0,I 0,I 0],.x (I 4)]
def er44:AV:=.t [.a [.d (.s 1 [i 12584321,i 12584450,i 2279171,i 2295684,i 2312197,i 6555526,i 8636167,i 2295688,i 4441865,i 14909450,i 0,i 4194304,i 4194304,i 2097152,i 4194304,i 4194304,i 0,i 0,i 0,i 0,i 0,i 0,i 0,i 0,i 0,i 0,i 0,i 0,i 0,i 0,i 0,i 0,i 0,i 0,i 0,i 0,i 0,i 0,i 0,i 0,i 0,i 0,i 0,i 0,i 0,i 0,i 0,i 0,i 0,i 0,i 0,i 0,i 0,i 0,i 0,i 0,i 0,i 0,i 0,i 0,i 0,i 0,i 0,i 0,i 0,i 0,i 0,i 0,i 0,i 0,i 0,i 0,i 0,i 0,i 0,i 0,i 0,i 0,i 0,i 0,i 0,i 0,i 0,i 0,i 0,i 0,i 0,i 0,i 0,i 0,i 0,i 0,i 0,i 0,i 0,i 0,i 0,i 0,i 0,i 0,i 0,i 0,i 0,i 0,i 0,i 0,i 0,i 0,i 0,i 0,i 0,i 0,i 0,i 0,i 0,i 0,i 0,i 0,i 0,i 0,i 0,i 0,i 0,i 0,i 0,i 0,i 0,i 0]),.d (.s 1 [i 4194304,i 4194304]),I 2,.d (.s 1 []),I 68,I 4,I 4,I 0],.x (I 0)]
theorem ek44:FnC Tryz.prog 105 ea44 er44:=run_fact (by kernel_rfl)
def ef44:Fact Tryz.prog:=⟨105,ea44,er44,fun σ=>ek44.call (by kernel_rfl) (by kernel_rfl)⟩
def ea45:List AV:=[.a [.d (.s 1 [i 12584321,i 12584450,i 2279171,i 2295684,i 2312197,i 6555526,i 8636167,i 2295688,i 4441865,i 14909450,i 0,i 4194304,i 4194304,i 2097152,i 4194304,i 4194304,i 0,i 0,i 0,i 0,i 0,i 0,i 0,i 0,i 0,i 0,i 0,i 0,i 0,i 0,i 0,i 0,i 0,i 0,i 0,i 0,i 0,i 0,i 0,i 0,i 0,i 0,i 0,i 0,i 0,i 0,i 0,i 0,i 0,i 0,i 0,i 0,i 0,i 0,i 0,i 0,i 0,i 0,i 0,i 0,i 0,i 0,i 0,i 0,i 0,i 0,i 0,i 0,i 0,i 0,i 0,i 0,i 0,i 0,i 0,i 0,i 0,i 0,i 0,i 0,i 0,i 0,i 0,i 0,i 0,i 0,i 0,i 0,i 0,i 0,i 0,i 0,i 0,i 0,i 0,i 0,i 0,i 0,i 0,i 0,i 0,i 0,i 0,i 0,i 0,i 0,i 0,i 0,i 0,i 0,i 0,i 0,i 0,i 0,i 0,i 0,i 0,i 0,i 0,i 0,i 0,i 0,i 0,i 0,i 0,i 0,i 0,i 0]),.d (.s 1 [i 4194304,i 4194304]),I 2,.d (.s 1 []),I 68,I 4,I 4,I 0]]
def er45:AV:=.t [.x (I 0),.x (I 0),.x (I 0)]
theorem ek45:FnC Tryz.prog 153 ea45 er45:=chk_fact (by kernel_rfl)
def ef45:Fact Tryz.prog:=⟨153,ea45,er45,fun σ=>ek45.call (by kernel_rfl) (by kernel_rfl)⟩
end Go.Proofs.YtidkoikjdghlmaaGreatDoor
namespace Go.Proofs.YtidkoikjdghlmaaGreatDoor
open Go Go.QL FoT
set_option maxRecDepth 1000000
def ea46:List AV:=[.x (.d (.s 1 [i 68,i 0,i 4,i 4,i 0,i 0,i 2,i 2,i 0,i 12584321,i 12584450,i 2279171,i 2295684,i 2312197,i 6555526,i 8636167,i 2295688,i 4441865,i 14909450,i 0,i 4194304,i 4194304,i 2097152,i 4194304,i 4194304,i 0,i 0,i 0,i 0,i 0,i 0,i 0,i 0,i 0,i 0,i 0,i 0,i 0,i 0,i 0,i 0,i 0,i 0,i 0,i 0,i 0,i 0,i 0,i 0,i 0,i 0,i 0,i 0,i 0,i 0,i 0,i 0,i 0,i 0,i 0,i 0,i 0,i 0,i 0,i 0,i 0,i 0,i 0,i 0,i 0,i 0,i 0,i 0,i 0,i 0,i 0,i 0,i 0,i 0,i 0,i 0,i 0,i 0,i 0,i 0,i 0,i 0,i 0,i 0,i 0,i 0,i 0,i 0,i 0,i 0,i 0,i 0,i 0,i 0,i 0,i 0,i 0,i 0,i 0,i 0,i 0,i 0,i 0,i 0,i 0,i 0,i 0,i 0,i 0,i 0,i 0,i 0,i 0,i 0,i 0,i 0,i 0,i 0,i 0,i 0,i 0,i 0,i 0,i 0,i 0,i 0,i 0,i 0,i 0,i 0,i 0,i 0,i 4194304,i 4194304]))]
def er46:AV:=.x (.d (.s 1 [u 11,u 2,u 64,u 64,u 4,u 1,u 64,u 64,u 64,u 64,u 64,u 64,u 4,u 64,u 64,u 64,u 4,u 64,u 64,u 64,u 64,u 64,u 64,u 64,u 64,u 64,u 64,u 64,u 2,u 64,u 64,u 64,u 2,u 64,u 64,u 64,u 64,u 64,u 64,u 64,u 1,u 22,u 64,u 112,u 2,u 88,u 64,u 112,u 67,u 28,u 44,u 8,u 4,u 94,u 112,u 8,u 69,u 32,u 52,u 8,u 70,u 94,u 64,u 25,u 64,u 7,u 28,u 124,u 32,u 8,u 94,u 112,u 8,u 73,u 28,u 124,u 16,u 74,u 64,u 56,u 56,u 64,u 64,u 64,u 64,u 64,u 64,u 64,u 16,u 64,u 64,u 64,u 16,u 64,u 64,u 64,u 8,u 64,u 64,u 64,u 16,u 64,u 64,u 64,u 16,u 64,u 64,u 64,u 64,u 64,u 64,u 64,u 64,u 64,u 64,u 64,u 64,u 64,u 64,u 64,u 64,u 64,u 64,u 64,u 64,u 64,u 64,u 64,u 64,u 82,u 64,u 64,u 64,u 64,u 64,u 64,u 64,u 64,u 64,u 64,u 64,u 64,u 64,u 64,u 64,u 64,u 64,u 64,u 64,u 64,u 64,u 64,u 64,u 64,u 64,u 64,u 64,u 64,u 64,u 64,u 64,u 64,u 64,u 64,u 64,u 64,u 64,u 64,u 64,u 64,u 64,u 64,u 64,u 64,u 64,u 64,u 64,u 64,u 64,u 64,u 64,u 64,u 64,u 64,u 64,u 64,u 64,u 64,u 64,u 64,u 64,u 64,u 64,u 64,u 64,u 64,u 64,u 64,u 64,u 64,u 64,u 64,u 64,u 64,u 64,u 64,u 64,u 64,u 64,u 64,u 64,u 64,u 64,u 64,u 64,u 64,u 64,u 64,u 64,u 64,u 64,u 64,u 64,u 64,u 64,u 64,u 64,u 64,u 64,u 64,u 64,u 64,u 64,u 64,u 64,u 64,u 64,u 64,u 64,u 64,u 64,u 64,u 64,u 64,u 64,u 64,u 64,u 64,u 64,u 64,u 64,u 64,u 64,u 64,u 64,u 64,u 64,u 64,u 64,u 64,u 64,u 64,u 64,u 64,u 64,u 64,u 64,u 64,u 64,u 64,u 64,u 64,u 64,u 64,u 64,u 64,u 64,u 64,u 64,u 64,u 64,u 64,u 64,u 64,u 64,u 64,u 64,u 64,u 64,u 64,u 64,u 64,u 64,u 64,u 64,u 64,u 64,u 64,u 64,u 64,u 64,u 64,u 64,u 64,u 64,u 64,u 64,u 64,u 64,u 64,u 64,u 64,u 64,u 64,u 64,u 64,u 64,u 64,u 64,u 64,u 64,u 64,u 64,u 64,u 64,u 64,u 64,u 64,u 64,u 64,u 64,u 64,u 64,u 64,u 64,u 64,u 64,u 64,u 64,u 64,u 64,u 64,u 64,u 64,u 64,u 64,u 64,u 64,u 64,u 64,u 64,u 64,u 64,u 64,u 64,u 64,u 64,u 64,u 64,u 64,u 64,u 64,u 64,u 64,u 64,u 64,u 64,u 64,u 64,u 64,u 64,u 64,u 64,u 64,u 64,u 64,u 64,u 64,u 64,u 64,u 64,u 64,u 64,u 64,u 64,u 64,u 64,u 64,u 64,u 64,u 64,u 64,u 64,u 64,u 64,u 64,u 64,u 64,u 64,u 64,u 64,u 64,u 64,u 64,u 64,u 64,u 64,u 64,u 64,u 64,u 64,u 64,u 64,u 64,u 64,u 64,u 64,u 64,u 64,u 64,u 64,u 64,u 64,u 64,u 64,u 64,u 64,u 64,u 64,u 64,u 64,u 64,u 64,u 64,u 64,u 64,u 64,u 64,u 64,u 64,u 64,u 64,u 64,u 64,u 64,u 64,u 64,u 64,u 64,u 64,u 64,u 64,u 64,u 64,u 64,u 64,u 64,u 64,u 64,u 64,u 64,u 64,u 64,u 64,u 64,u 64,u 64,u 64,u 64,u 64,u 64,u 64,u 64,u 64,u 64,u 64,u 64,u 64,u 64,u 64,u 64,u 64,u 64,u 64,u 64,u 64,u 64,u 64,u 64,u 64,u 64,u 64,u 64,u 64,u 64,u 64,u 64,u 64,u 64,u 64,u 64,u 64,u 64,u 64,u 64,u 64,u 64,u 64,u 64,u 64,u 64,u 64,u 64,u 64,u 64,u 64,u 64,u 64,u 64,u 64,u 64,u 64,u 64,u 64,u 64,u 64,u 64,u 64,u 64,u 64,u 64,u 64,u 64,u 64,u 64,u 64,u 64,u 64,u 64,u 64,u 64,u 64,u 64,u 64,u 64,u 64,u 64,u 64,u 64,u 64,u 64,u 64,u 64,u 64,u 64,u 64,u 64,u 64,u 64,u 64,u 64,u 64,u 64,u 16,u 64,u 64,u 64,u 16,u 64,u 64,u 64,u 64,u 64,u 64,u 64,u 64,u 64,u 64,u 64,u 64,u 64,u 64,u 64,u 64,u 64]))
theorem ek46:FnC Tryz.prog 154 ea46 er46:=evF0 (M:=[]) (by kernel_rfl) (by kernel_rfl)
def ef46:Fact Tryz.prog:=⟨154,ea46,er46,fun σ=>ek46.call (by kernel_rfl) (by kernel_rfl)⟩
end Go.Proofs.YtidkoikjdghlmaaGreatDoor
namespace Go.Proofs.YtidkoikjdghlmaaGreatDoor
open Go Go.QL FoT
set_option maxRecDepth 1000000
def ea47:List AV:=[.x (.d (.s 1 [u 11,u 2,u 64,u 64,u 4,u 1,u 64,u 64,u 64,u 64,u 64,u 64,u 4,u 64,u 64,u 64,u 4,u 64,u 64,u 64,u 64,u 64,u 64,u 64,u 64,u 64,u 64,u 64,u 2,u 64,u 64,u 64,u 2,u 64,u 64,u 64,u 64,u 64,u 64,u 64,u 1,u 22,u 64,u 112,u 2,u 88,u 64,u 112,u 67,u 28,u 44,u 8,u 4,u 94,u 112,u 8,u 69,u 32,u 52,u 8,u 70,u 94,u 64,u 25,u 64,u 7,u 28,u 124,u 32,u 8,u 94,u 112,u 8,u 73,u 28,u 124,u 16,u 74,u 64,u 56,u 56,u 64,u 64,u 64,u 64,u 64,u 64,u 64,u 16,u 64,u 64,u 64,u 16,u 64,u 64,u 64,u 8,u 64,u 64,u 64,u 16,u 64,u 64,u 64,u 16,u 64,u 64,u 64,u 64,u 64,u 64,u 64,u 64,u 64,u 64,u 64,u 64,u 64,u 64,u 64,u 64,u 64,u 64,u 64,u 64,u 64,u 64,u 64,u 64,u 82,u 64,u 64,u 64,u 64,u 64,u 64,u 64,u 64,u 64,u 64,u 64,u 64,u 64,u 64,u 64,u 64,u 64,u 64,u 64,u 64,u 64,u 64,u 64,u 64,u 64,u 64,u 64,u 64,u 64,u 64,u 64,u 64,u 64,u 64,u 64,u 64,u 64,u 64,u 64,u 64,u 64,u 64,u 64,u 64,u 64,u 64,u 64,u 64,u 64,u 64,u 64,u 64,u 64,u 64,u 64,u 64,u 64,u 64,u 64,u 64,u 64,u 64,u 64,u 64,u 64,u 64,u 64,u 64,u 64,u 64,u 64,u 64,u 64,u 64,u 64,u 64,u 64,u 64,u 64,u 64,u 64,u 64,u 64,u 64,u 64,u 64,u 64,u 64,u 64,u 64,u 64,u 64,u 64,u 64,u 64,u 64,u 64,u 64,u 64,u 64,u 64,u 64,u 64,u 64,u 64,u 64,u 64,u 64,u 64,u 64,u 64,u 64,u 64,u 64,u 64,u 64,u 64,u 64,u 64,u 64,u 64,u 64,u 64,u 64,u 64,u 64,u 64,u 64,u 64,u 64,u 64,u 64,u 64,u 64,u 64,u 64,u 64,u 64,u 64,u 64,u 64,u 64,u 64,u 64,u 64,u 64,u 64,u 64,u 64,u 64,u 64,u 64,u 64,u 64,u 64,u 64,u 64,u 64,u 64,u 64,u 64,u 64,u 64,u 64,u 64,u 64,u 64,u 64,u 64,u 64,u 64,u 64,u 64,u 64,u 64,u 64,u 64,u 64,u 64,u 64,u 64,u 64,u 64,u 64,u 64,u 64,u 64,u 64,u 64,u 64,u 64,u 64,u 64,u 64,u 64,u 64,u 64,u 64,u 64,u 64,u 64,u 64,u 64,u 64,u 64,u 64,u 64,u 64,u 64,u 64,u 64,u 64,u 64,u 64,u 64,u 64,u 64,u 64,u 64,u 64,u 64,u 64,u 64,u 64,u 64,u 64,u 64,u 64,u 64,u 64,u 64,u 64,u 64,u 64,u 64,u 64,u 64,u 64,u 64,u 64,u 64,u 64,u 64,u 64,u 64,u 64,u 64,u 64,u 64,u 64,u 64,u 64,u 64,u 64,u 64,u 64,u 64,u 64,u 64,u 64,u 64,u 64,u 64,u 64,u 64,u 64,u 64,u 64,u 64,u 64,u 64,u 64,u 64,u 64,u 64,u 64,u 64,u 64,u 64,u 64,u 64,u 64,u 64,u 64,u 64,u 64,u 64,u 64,u 64,u 64,u 64,u 64,u 64,u 64,u 64,u 64,u 64,u 64,u 64,u 64,u 64,u 64,u 64,u 64,u 64,u 64,u 64,u 64,u 64,u 64,u 64,u 64,u 64,u 64,u 64,u 64,u 64,u 64,u 64,u 64,u 64,u 64,u 64,u 64,u 64,u 64,u 64,u 64,u 64,u 64,u 64,u 64,u 64,u 64,u 64,u 64,u 64,u 64,u 64,u 64,u 64,u 64,u 64,u 64,u 64,u 64,u 64,u 64,u 64,u 64,u 64,u 64,u 64,u 64,u 64,u 64,u 64,u 64,u 64,u 64,u 64,u 64,u 64,u 64,u 64,u 64,u 64,u 64,u 64,u 64,u 64,u 64,u 64,u 64,u 64,u 64,u 64,u 64,u 64,u 64,u 64,u 64,u 64,u 64,u 64,u 64,u 64,u 64,u 64,u 64,u 64,u 64,u 64,u 64,u 64,u 64,u 64,u 64,u 64,u 64,u 64,u 64,u 64,u 64,u 64,u 64,u 64,u 64,u 64,u 64,u 64,u 64,u 64,u 64,u 64,u 64,u 64,u 64,u 64,u 64,u 64,u 64,u 64,u 64,u 64,u 64,u 64,u 64,u 64,u 64,u 64,u 64,u 64,u 16,u 64,u 64,u 64,u 16,u 64,u 64,u 64,u 64,u 64,u 64,u 64,u 64,u 64,u 64,u 64,u 64,u 64,u 64,u 64,u 64,u 64]))]
def er47:AV:=.x (.d (.v (.int .u8 (124))))
theorem ek47:FnC Tryz.prog 214 ea47 er47:=evF0 (M:=[]) (by kernel_rfl) (by kernel_rfl)
def ef47:Fact Tryz.prog:=⟨214,ea47,er47,fun σ=>ek47.call (by kernel_rfl) (by kernel_rfl)⟩
def ea48:List AV:=[.x (.d (.s 1 [u 11,u 2,u 64,u 64,u 4,u 1,u 64,u 64,u 64,u 64,u 64,u 64,u 4,u 64,u 64,u 64,u 4,u 64,u 64,u 64,u 64,u 64,u 64,u 64,u 64,u 64,u 64,u 64,u 2,u 64,u 64,u 64,u 2,u 64,u 64,u 64,u 64,u 64,u 64,u 64,u 1,u 22,u 64,u 112,u 2,u 88,u 64,u 112,u 67,u 28,u 44,u 8,u 4,u 94,u 112,u 8,u 69,u 32,u 52,u 8,u 70,u 94,u 64,u 25,u 64]))]
def er48:AV:=.x (.d (.v (.int .u8 (0))))
theorem ek48:FnC Tryz.prog 212 ea48 er48:=evF0 (M:=[]) (by kernel_rfl) (by kernel_rfl)
def ef48:Fact Tryz.prog:=⟨212,ea48,er48,fun σ=>ek48.call (by kernel_rfl) (by kernel_rfl)⟩
def ea49:List AV:=[.x (.d (.s 1 [u 11,u 2,u 64,u 64,u 4,u 1,u 64,u 64,u 64,u 64,u 64,u 64,u 4,u 64,u 64,u 64,u 4,u 64,u 64,u 64,u 64,u 64,u 64,u 64,u 64,u 64,u 64,u 64,u 2,u 64,u 64,u 64,u 2,u 64,u 64,u 64,u 64,u 64,u 64,u 64,u 1,u 22,u 64,u 112,u 2,u 88,u 64,u 112,u 67,u 28,u 44,u 8,u 4,u 94,u 112,u 8,u 69,u 32,u 52,u 8,u 70,u 94,u 64,u 25,u 64]))]
def er49:AV:=.t [.x (I (-1)),.x (.d (.v (.bool true)))]
theorem ek49:FnC Tryz.prog 217 ea49 er49:=evF0 (M:=[ef48]) (by kernel_rfl) (by kernel_rfl)
def ef49:Fact Tryz.prog:=⟨217,ea49,er49,fun σ=>ek49.call (by kernel_rfl) (by kernel_rfl)⟩
def ea50:List AV:=[.x (.d (.s 1 [u 7,u 28,u 124,u 32,u 8,u 94,u 112,u 8,u 73,u 28,u 124,u 16,u 74,u 64,u 56,u 56,u 64,u 64,u 64,u 64,u 64,u 64,u 64,u 16,u 64,u 64,u 64,u 16,u 64,u 64,u 64,u 8,u 64,u 64,u 64,u 16,u 64,u 64,u 64,u 16,u 64,u 64,u 64,u 64,u 64,u 64,u 64,u 64,u 64,u 64,u 64,u 64,u 64,u 64,u 64,u 64,u 64,u 64,u 64,u 64,u 64,u 64,u 64,u 64,u 82]))]
def er50:AV:=.x (.d (.v (.int .u8 (0))))
theorem ek50:FnC Tryz.prog 212 ea50 er50:=evF0 (M:=[]) (by kernel_rfl) (by kernel_rfl)
def ef50:Fact Tryz.prog:=⟨212,ea50,er50,fun σ=>ek50.call (by kernel_rfl) (by kernel_rfl)⟩
end Go.Proofs.YtidkoikjdghlmaaGreatDoor
namespace Go.Proofs.YtidkoikjdghlmaaGreatDoor
open Go Go.QL FoT
set_option maxRecDepth 1000000
def ea51:List AV:=[.x (.d (.s 1 [u 7,u 28,u 124,u 32,u 8,u 94,u 112,u 8,u 73,u 28,u 124,u 16,u 74,u 64,u 56,u 56,u 64,u 64,u 64,u 64,u 64,u 64,u 64,u 16,u 64,u 64,u 64,u 16,u 64,u 64,u 64,u 8,u 64,u 64,u 64,u 16,u 64,u 64,u 64,u 16,u 64,u 64,u 64,u 64,u 64,u 64,u 64,u 64,u 64,u 64,u 64,u 64,u 64,u 64,u 64,u 64,u 64,u 64,u 64,u 64,u 64,u 64,u 64,u 64,u 82]))]
def er51:AV:=.t [.x (I (-1)),.x (.d (.v (.bool true)))]
theorem ek51:FnC Tryz.prog 217 ea51 er51:=evF0 (M:=[ef50]) (by kernel_rfl) (by kernel_rfl)
def ef51:Fact Tryz.prog:=⟨217,ea51,er51,fun σ=>ek51.call (by kernel_rfl) (by kernel_rfl)⟩
def ea52:List AV:=[.x (.d (.s 1 [u 64,u 64,u 64,u 64,u 64,u 64,u 64,u 64,u 64,u 64,u 64,u 64,u 64,u 64,u 64,u 64,u 64,u 64,u 64,u 64,u 64,u 64,u 64,u 64,u 64,u 64,u 64,u 64,u 64,u 64,u 64,u 64,u 64,u 64,u 64,u 64,u 64,u 64,u 64,u 64,u 64,u 64,u 64,u 64,u 64,u 64,u 64,u 64,u 64,u 64,u 64,u 64,u 64,u 64,u 64,u 64,u 64,u 64,u 64,u 64,u 64,u 64,u 64,u 64,u 64]))]
def er52:AV:=.x (.d (.v (.int .u8 (0))))
theorem ek52:FnC Tryz.prog 212 ea52 er52:=evF0 (M:=[]) (by kernel_rfl) (by kernel_rfl)
def ef52:Fact Tryz.prog:=⟨212,ea52,er52,fun σ=>ek52.call (by kernel_rfl) (by kernel_rfl)⟩
def ea53:List AV:=[.x (.d (.s 1 [u 64,u 64,u 64,u 64,u 64,u 64,u 64,u 64,u 64,u 64,u 64,u 64,u 64,u 64,u 64,u 64,u 64,u 64,u 64,u 64,u 64,u 64,u 64,u 64,u 64,u 64,u 64,u 64,u 64,u 64,u 64,u 64,u 64,u 64,u 64,u 64,u 64,u 64,u 64,u 64,u 64,u 64,u 64,u 64,u 64,u 64,u 64,u 64,u 64,u 64,u 64,u 64,u 64,u 64,u 64,u 64,u 64,u 64,u 64,u 64,u 64,u 64,u 64,u 64,u 64]))]
def er53:AV:=.t [.x (I (-1)),.x (.d (.v (.bool true)))]
theorem ek53:FnC Tryz.prog 217 ea53 er53:=evF0 (M:=[ef52]) (by kernel_rfl) (by kernel_rfl)
def ef53:Fact Tryz.prog:=⟨217,ea53,er53,fun σ=>ek53.call (by kernel_rfl) (by kernel_rfl)⟩
def ea54:List AV:=[.x (.d (.s 1 [u 64,u 64,u 64,u 64,u 64,u 64,u 64,u 64,u 64,u 64,u 64,u 64,u 64,u 64,u 64,u 64,u 64,u 64,u 64,u 64,u 64,u 64,u 64,u 64,u 64,u 64,u 64,u 64,u 64,u 64,u 64,u 64,u 64,u 64,u 64,u 64,u 64,u 64,u 64,u 64,u 64,u 64,u 64,u 16,u 64,u 64,u 64,u 16,u 64,u 64,u 64,u 64,u 64,u 64,u 64,u 64,u 64,u 64,u 64,u 64,u 64,u 64,u 64,u 64,u 64]))]
def er54:AV:=.x (.d (.v (.int .u8 (0))))
theorem ek54:FnC Tryz.prog 212 ea54 er54:=evF0 (M:=[]) (by kernel_rfl) (by kernel_rfl)
def ef54:Fact Tryz.prog:=⟨212,ea54,er54,fun σ=>ek54.call (by kernel_rfl) (by kernel_rfl)⟩
def ea55:List AV:=[.x (.d (.s 1 [u 64,u 64,u 64,u 64,u 64,u 64,u 64,u 64,u 64,u 64,u 64,u 64,u 64,u 64,u 64,u 64,u 64,u 64,u 64,u 64,u 64,u 64,u 64,u 64,u 64,u 64,u 64,u 64,u 64,u 64,u 64,u 64,u 64,u 64,u 64,u 64,u 64,u 64,u 64,u 64,u 64,u 64,u 64,u 16,u 64,u 64,u 64,u 16,u 64,u 64,u 64,u 64,u 64,u 64,u 64,u 64,u 64,u 64,u 64,u 64,u 64,u 64,u 64,u 64,u 64]))]
def er55:AV:=.t [.x (I (-1)),.x (.d (.v (.bool true)))]
theorem ek55:FnC Tryz.prog 217 ea55 er55:=evF0 (M:=[ef54]) (by kernel_rfl) (by kernel_rfl)
def ef55:Fact Tryz.prog:=⟨217,ea55,er55,fun σ=>ek55.call (by kernel_rfl) (by kernel_rfl)⟩
end Go.Proofs.YtidkoikjdghlmaaGreatDoor
namespace Go.Proofs.YtidkoikjdghlmaaGreatDoor
open Go Go.QL FoT
set_option maxRecDepth 1000000
def ea56:List AV:=[.x (.d (.s 1 [u 11,u 2,u 64,u 64,u 4,u 1,u 64,u 64,u 64,u 64,u 64,u 64,u 4,u 64,u 64,u 64,u 4,u 64,u 64,u 64,u 64,u 64,u 64,u 64,u 64,u 64,u 64,u 64,u 2,u 64,u 64,u 64,u 2,u 64,u 64,u 64,u 64,u 64,u 64,u 64,u 1,u 22,u 64,u 112,u 2,u 88,u 64,u 112,u 67,u 28,u 44,u 8,u 4,u 94,u 112,u 8,u 69,u 32,u 52,u 8,u 70,u 94,u 64,u 25,u 64,u 7,u 28,u 124,u 32,u 8,u 94,u 112,u 8,u 73,u 28,u 124,u 16,u 74,u 64,u 56,u 56,u 64,u 64,u 64,u 64,u 64,u 64,u 64,u 16,u 64,u 64,u 64,u 16,u 64,u 64,u 64,u 8,u 64,u 64,u 64,u 16,u 64,u 64,u 64,u 16,u 64,u 64,u 64,u 64,u 64,u 64,u 64,u 64,u 64,u 64,u 64,u 64,u 64,u 64,u 64,u 64,u 64,u 64,u 64,u 64,u 64,u 64,u 64,u 64,u 82,u 64,u 64,u 64,u 64,u 64,u 64,u 64,u 64,u 64,u 64,u 64,u 64,u 64,u 64,u 64,u 64,u 64,u 64,u 64,u 64,u 64,u 64,u 64,u 64,u 64,u 64,u 64,u 64,u 64,u 64,u 64,u 64,u 64,u 64,u 64,u 64,u 64,u 64,u 64,u 64,u 64,u 64,u 64,u 64,u 64,u 64,u 64,u 64,u 64,u 64,u 64,u 64,u 64,u 64,u 64,u 64,u 64,u 64,u 64,u 64,u 64,u 64,u 64,u 64,u 64,u 64,u 64,u 64,u 64,u 64,u 64,u 64,u 64,u 64,u 64,u 64,u 64,u 64,u 64,u 64,u 64,u 64,u 64,u 64,u 64,u 64,u 64,u 64,u 64,u 64,u 64,u 64,u 64,u 64,u 64,u 64,u 64,u 64,u 64,u 64,u 64,u 64,u 64,u 64,u 64,u 64,u 64,u 64,u 64,u 64,u 64,u 64,u 64,u 64,u 64,u 64,u 64,u 64,u 64,u 64,u 64,u 64,u 64,u 64,u 64,u 64,u 64,u 64,u 64,u 64,u 64,u 64,u 64,u 64,u 64,u 64,u 64,u 64,u 64,u 64,u 64,u 64,u 64,u 64,u 64,u 64,u 64,u 64,u 64,u 64,u 64,u 64,u 64,u 64,u 64,u 64,u 64,u 64,u 64,u 64,u 64,u 64,u 64,u 64,u 64,u 64,u 64,u 64,u 64,u 64,u 64,u 64,u 64,u 64,u 64,u 64,u 64,u 64,u 64,u 64,u 64,u 64,u 64,u 64,u 64,u 64,u 64,u 64,u 64,u 64,u 64,u 64,u 64,u 64,u 64,u 64,u 64,u 64,u 64,u 64,u 64,u 64,u 64,u 64,u 64,u 64,u 64,u 64,u 64,u 64,u 64,u 64,u 64,u 64,u 64,u 64,u 64,u 64,u 64,u 64,u 64,u 64,u 64,u 64,u 64,u 64,u 64,u 64,u 64,u 64,u 64,u 64,u 64,u 64,u 64,u 64,u 64,u 64,u 64,u 64,u 64,u 64,u 64,u 64,u 64,u 64,u 64,u 64,u 64,u 64,u 64,u 64,u 64,u 64,u 64,u 64,u 64,u 64,u 64,u 64,u 64,u 64,u 64,u 64,u 64,u 64,u 64,u 64,u 64,u 64,u 64,u 64,u 64,u 64,u 64,u 64,u 64,u 64,u 64,u 64,u 64,u 64,u 64,u 64,u 64,u 64,u 64,u 64,u 64,u 64,u 64,u 64,u 64,u 64,u 64,u 64,u 64,u 64,u 64,u 64,u 64,u 64,u 64,u 64,u 64,u 64,u 64,u 64,u 64,u 64,u 64,u 64,u 64,u 64,u 64,u 64,u 64,u 64,u 64,u 64,u 64,u 64,u 64,u 64,u 64,u 64,u 64,u 64,u 64,u 64,u 64,u 64,u 64,u 64,u 64,u 64,u 64,u 64,u 64,u 64,u 64,u 64,u 64,u 64,u 64,u 64,u 64,u 64,u 64,u 64,u 64,u 64,u 64,u 64,u 64,u 64,u 64,u 64,u 64,u 64,u 64,u 64,u 64,u 64,u 64,u 64,u 64,u 64,u 64,u 64,u 64,u 64,u 64,u 64,u 64,u 64,u 64,u 64,u 64,u 64,u 64,u 64,u 64,u 64,u 64,u 64,u 64,u 64,u 64,u 64,u 64,u 64,u 64,u 64,u 64,u 64,u 64,u 64,u 64,u 64,u 64,u 64,u 64,u 64,u 64,u 64,u 64,u 64,u 64,u 64,u 64,u 64,u 64,u 64,u 64,u 64,u 64,u 64,u 64,u 64,u 64,u 64,u 64,u 64,u 64,u 64,u 64,u 64,u 64,u 64,u 64,u 64,u 64,u 16,u 64,u 64,u 64,u 16,u 64,u 64,u 64,u 64,u 64,u 64,u 64,u 64,u 64,u 64,u 64,u 64,u 64,u 64,u 64,u 64,u 64])),.x (.d (.s 1 [u 11,u 2,u 64,u 64,u 4,u 1,u 64,u 64,u 64,u 64,u 64,u 64,u 4,u 64,u 64,u 64,u 4,u 64,u 64,u 64,u 64,u 64,u 64,u 64,u 64,u 64,u 64,u 64,u 2,u 64,u 64,u 64,u 2,u 64,u 64,u 64,u 64,u 64,u 64,u 64,u 1,u 22,u 64,u 112,u 2,u 88,u 64,u 112,u 67,u 28,u 44,u 8,u 4,u 94,u 112,u 8,u 69,u 32,u 52,u 8,u 70,u 94,u 64,u 25,u 64,u 7,u 28,u 124,u 32,u 8,u 94,u 112,u 8,u 73,u 28,u 124,u 16,u 74,u 64,u 56,u 56,u 64,u 64,u 64,u 64,u 64,u 64,u 64,u 16,u 64,u 64,u 64,u 16,u 64,u 64,u 64,u 8,u 64,u 64,u 64,u 16,u 64,u 64,u 64,u 16,u 64,u 64,u 64,u 64,u 64,u 64,u 64,u 64,u 64,u 64,u 64,u 64,u 64,u 64,u 64,u 64,u 64,u 64,u 64,u 64,u 64,u 64,u 64,u 64,u 82,u 64,u 64,u 64,u 64,u 64,u 64,u 64,u 64,u 64,u 64,u 64,u 64,u 64,u 64,u 64,u 64,u 64,u 64,u 64,u 64,u 64,u 64,u 64,u 64,u 64,u 64,u 64,u 64,u 64,u 64,u 64,u 64,u 64,u 64,u 64,u 64,u 64,u 64,u 64,u 64,u 64,u 64,u 64,u 64,u 64,u 64,u 64,u 64,u 64,u 64,u 64,u 64,u 64,u 64,u 64,u 64,u 64,u 64,u 64,u 64,u 64,u 64,u 64,u 64,u 64,u 64,u 64,u 64,u 64,u 64,u 64,u 64,u 64,u 64,u 64,u 64,u 64,u 64,u 64,u 64,u 64,u 64,u 64,u 64,u 64,u 64,u 64,u 64,u 64,u 64,u 64,u 64,u 64,u 64,u 64,u 64,u 64,u 64,u 64,u 64,u 64,u 64,u 64,u 64,u 64,u 64,u 64,u 64,u 64,u 64,u 64,u 64,u 64,u 64,u 64,u 64,u 64,u 64,u 64,u 64,u 64,u 64,u 64,u 64,u 64,u 64,u 64,u 64,u 64,u 64,u 64,u 64,u 64,u 64,u 64,u 64,u 64,u 64,u 64,u 64,u 64,u 64,u 64,u 64,u 64,u 64,u 64,u 64,u 64,u 64,u 64,u 64,u 64,u 64,u 64,u 64,u 64,u 64,u 64,u 64,u 64,u 64,u 64,u 64,u 64,u 64,u 64,u 64,u 64,u 64,u 64,u 64,u 64,u 64,u 64,u 64,u 64,u 64,u 64,u 64,u 64,u 64,u 64,u 64,u 64,u 64,u 64,u 64,u 64,u 64,u 64,u 64,u 64,u 64,u 64,u 64,u 64,u 64,u 64,u 64,u 64,u 64,u 64,u 64,u 64,u 64,u 64,u 64,u 64,u 64,u 64,u 64,u 64,u 64,u 64,u 64,u 64,u 64,u 64,u 64,u 64,u 64,u 64,u 64,u 64,u 64,u 64,u 64,u 64,u 64,u 64,u 64,u 64,u 64,u 64,u 64,u 64,u 64,u 64,u 64,u 64,u 64,u 64,u 64,u 64,u 64,u 64,u 64,u 64,u 64,u 64,u 64,u 64,u 64,u 64,u 64,u 64,u 64,u 64,u 64,u 64,u 64,u 64,u 64,u 64,u 64,u 64,u 64,u 64,u 64,u 64,u 64,u 64,u 64,u 64,u 64,u 64,u 64,u 64,u 64,u 64,u 64,u 64,u 64,u 64,u 64,u 64,u 64,u 64,u 64,u 64,u 64,u 64,u 64,u 64,u 64,u 64,u 64,u 64,u 64,u 64,u 64,u 64,u 64,u 64,u 64,u 64,u 64,u 64,u 64,u 64,u 64,u 64,u 64,u 64,u 64,u 64,u 64,u 64,u 64,u 64,u 64,u 64,u 64,u 64,u 64,u 64,u 64,u 64,u 64,u 64,u 64,u 64,u 64,u 64,u 64,u 64,u 64,u 64,u 64,u 64,u 64,u 64,u 64,u 64,u 64,u 64,u 64,u 64,u 64,u 64,u 64,u 64,u 64,u 64,u 64,u 64,u 64,u 64,u 64,u 64,u 64,u 64,u 64,u 64,u 64,u 64,u 64,u 64,u 64,u 64,u 64,u 64,u 64,u 64,u 64,u 64,u 64,u 64,u 64,u 64,u 64,u 64,u 64,u 64,u 64,u 64,u 64,u 64,u 64,u 64,u 64,u 64,u 64,u 64,u 64,u 64,u 64,u 64,u 64,u 64,u 64,u 64,u 64,u 64,u 64,u 64,u 64,u 64,u 64,u 64,u 64,u 64,u 64,u 64,u 64,u 64,u 64,u 64,u 64,u 64,u 64,u 64,u 64,u 64,u 64,u 64,u 64,u 64,u 64,u 64,u 64,u 64,u 16,u 64,u 64,u 64,u 16,u 64,u 64,u 64,u 64,u 64,u 64,u 64,u 64,u 64,u 64,u 64,u 64,u 64,u 64,u 64,u 64,u 64]))]
def er56:AV:=.x (.d (.v (.bool true)))
theorem ek56:FnC Tryz.prog 220 ea56 er56:=evF0 (M:=[]) (by kernel_rfl) (by kernel_rfl)
def ef56:Fact Tryz.prog:=⟨220,ea56,er56,fun σ=>ek56.call (by kernel_rfl) (by kernel_rfl)⟩
end Go.Proofs.YtidkoikjdghlmaaGreatDoor
namespace Go.Proofs.YtidkoikjdghlmaaGreatDoor
open Go Go.QL FoT
set_option maxRecDepth 1000000
def ea57:List AV:=[.x (.d (.s 1 [u 11,u 2,u 64,u 64,u 4,u 1,u 64,u 64,u 64,u 64,u 64,u 64,u 4,u 64,u 64,u 64,u 4,u 64,u 64,u 64,u 64,u 64,u 64,u 64,u 64,u 64,u 64,u 64,u 2,u 64,u 64,u 64,u 2,u 64,u 64,u 64,u 64,u 64,u 64,u 64,u 1,u 22,u 64,u 112,u 2,u 88,u 64,u 112,u 67,u 28,u 44,u 8,u 4,u 94,u 112,u 8,u 69,u 32,u 52,u 8,u 70,u 94,u 64,u 25,u 64,u 7,u 28,u 124,u 32,u 8,u 94,u 112,u 8,u 73,u 28,u 124,u 16,u 74,u 64,u 56,u 56,u 64,u 64,u 64,u 64,u 64,u 64,u 64,u 16,u 64,u 64,u 64,u 16,u 64,u 64,u 64,u 8,u 64,u 64,u 64,u 16,u 64,u 64,u 64,u 16,u 64,u 64,u 64,u 64,u 64,u 64,u 64,u 64,u 64,u 64,u 64,u 64,u 64,u 64,u 64,u 64,u 64,u 64,u 64,u 64,u 64,u 64,u 64,u 64,u 82,u 64,u 64,u 64,u 64,u 64,u 64,u 64,u 64,u 64,u 64,u 64,u 64,u 64,u 64,u 64,u 64,u 64,u 64,u 64,u 64,u 64,u 64,u 64,u 64,u 64,u 64,u 64,u 64,u 64,u 64,u 64,u 64,u 64,u 64,u 64,u 64,u 64,u 64,u 64,u 64,u 64,u 64,u 64,u 64,u 64,u 64,u 64,u 64,u 64,u 64,u 64,u 64,u 64,u 64,u 64,u 64,u 64,u 64,u 64,u 64,u 64,u 64,u 64,u 64,u 64,u 64,u 64,u 64,u 64,u 64,u 64,u 64,u 64,u 64,u 64,u 64,u 64,u 64,u 64,u 64,u 64,u 64,u 64,u 64,u 64,u 64,u 64,u 64,u 64,u 64,u 64,u 64,u 64,u 64,u 64,u 64,u 64,u 64,u 64,u 64,u 64,u 64,u 64,u 64,u 64,u 64,u 64,u 64,u 64,u 64,u 64,u 64,u 64,u 64,u 64,u 64,u 64,u 64,u 64,u 64,u 64,u 64,u 64,u 64,u 64,u 64,u 64,u 64,u 64,u 64,u 64,u 64,u 64,u 64,u 64,u 64,u 64,u 64,u 64,u 64,u 64,u 64,u 64,u 64,u 64,u 64,u 64,u 64,u 64,u 64,u 64,u 64,u 64,u 64,u 64,u 64,u 64,u 64,u 64,u 64,u 64,u 64,u 64,u 64,u 64,u 64,u 64,u 64,u 64,u 64,u 64,u 64,u 64,u 64,u 64,u 64,u 64,u 64,u 64,u 64,u 64,u 64,u 64,u 64,u 64,u 64,u 64,u 64,u 64,u 64,u 64,u 64,u 64,u 64,u 64,u 64,u 64,u 64,u 64,u 64,u 64,u 64,u 64,u 64,u 64,u 64,u 64,u 64,u 64,u 64,u 64,u 64,u 64,u 64,u 64,u 64,u 64,u 64,u 64,u 64,u 64,u 64,u 64,u 64,u 64,u 64,u 64,u 64,u 64,u 64,u 64,u 64,u 64,u 64,u 64,u 64,u 64,u 64,u 64,u 64,u 64,u 64,u 64,u 64,u 64,u 64,u 64,u 64,u 64,u 64,u 64,u 64,u 64,u 64,u 64,u 64,u 64,u 64,u 64,u 64,u 64,u 64,u 64,u 64,u 64,u 64,u 64,u 64,u 64,u 64,u 64,u 64,u 64,u 64,u 64,u 64,u 64,u 64,u 64,u 64,u 64,u 64,u 64,u 64,u 64,u 64,u 64,u 64,u 64,u 64,u 64,u 64,u 64,u 64,u 64,u 64,u 64,u 64,u 64,u 64,u 64,u 64,u 64,u 64,u 64,u 64,u 64,u 64,u 64,u 64,u 64,u 64,u 64,u 64,u 64,u 64,u 64,u 64,u 64,u 64,u 64,u 64,u 64,u 64,u 64,u 64,u 64,u 64,u 64,u 64,u 64,u 64,u 64,u 64,u 64,u 64,u 64,u 64,u 64,u 64,u 64,u 64,u 64,u 64,u 64,u 64,u 64,u 64,u 64,u 64,u 64,u 64,u 64,u 64,u 64,u 64,u 64,u 64,u 64,u 64,u 64,u 64,u 64,u 64,u 64,u 64,u 64,u 64,u 64,u 64,u 64,u 64,u 64,u 64,u 64,u 64,u 64,u 64,u 64,u 64,u 64,u 64,u 64,u 64,u 64,u 64,u 64,u 64,u 64,u 64,u 64,u 64,u 64,u 64,u 64,u 64,u 64,u 64,u 64,u 64,u 64,u 64,u 64,u 64,u 64,u 64,u 64,u 64,u 64,u 64,u 64,u 64,u 64,u 64,u 64,u 64,u 64,u 64,u 64,u 64,u 64,u 64,u 64,u 64,u 64,u 64,u 64,u 64,u 64,u 64,u 64,u 64,u 64,u 16,u 64,u 64,u 64,u 16,u 64,u 64,u 64,u 64,u 64,u 64,u 64,u 64,u 64,u 64,u 64,u 64,u 64,u 64,u 64,u 64,u 64]))]
def er57:AV:=.t [.x (.d (.s 1 [i 68,i 0,i 4,i 4,i 0,i 0,i 2,i 2,i 0,i 12584321,i 12584450,i 2279171,i 2295684,i 2312197,i 6555526,i 8636167,i 2295688,i 4441865,i 14909450,i 0,i 4194304,i 4194304,i 2097152,i 4194304,i 4194304,i 0,i 0,i 0,i 0,i 0,i 0,i 0,i 0,i 0,i 0,i 0,i 0,i 0,i 0,i 0,i 0,i 0,i 0,i 0,i 0,i 0,i 0,i 0,i 0,i 0,i 0,i 0,i 0,i 0,i 0,i 0,i 0,i 0,i 0,i 0,i 0,i 0,i 0,i 0,i 0,i 0,i 0,i 0,i 0,i 0,i 0,i 0,i 0,i 0,i 0,i 0,i 0,i 0,i 0,i 0,i 0,i 0,i 0,i 0,i 0,i 0,i 0,i 0,i 0,i 0,i 0,i 0,i 0,i 0,i 0,i 0,i 0,i 0,i 0,i 0,i 0,i 0,i 0,i 0,i 0,i 0,i 0,i 0,i 0,i 0,i 0,i 0,i 0,i 0,i 0,i 0,i 0,i 0,i 0,i 0,i 0,i 0,i 0,i 0,i 0,i 0,i 0,i 0,i 0,i 0,i 0,i 0,i 0,i 0,i 0,i 0,i 0,i 4194304,i 4194304])),.x (.d (.v (.slice none 0 0))),.x (I 0),.x (I 0)]
theorem ek57:FnC Tryz.prog 159 ea57 er57:=evF0 (M:=[ef47,ef49,ef51,ef53,ef55,ef46,ef56]) (by kernel_rfl) (by kernel_rfl)
def ef57:Fact Tryz.prog:=⟨159,ea57,er57,fun σ=>ek57.call (by kernel_rfl) (by kernel_rfl)⟩
end Go.Proofs.YtidkoikjdghlmaaGreatDoor
namespace Go.Proofs.YtidkoikjdghlmaaGreatDoor
open Go Go.QL FoT
set_option maxRecDepth 1000000
def ea58:List AV:=[.a [.d (.s 1 [i 12584321,i 12584450,i 2279171,i 2295684,i 2312197,i 6555526,i 8636167,i 2295688,i 4441865,i 14909450,i 0,i 4194304,i 4194304,i 2097152,i 4194304,i 4194304,i 0,i 0,i 0,i 0,i 0,i 0,i 0,i 0,i 0,i 0,i 0,i 0,i 0,i 0,i 0,i 0,i 0,i 0,i 0,i 0,i 0,i 0,i 0,i 0,i 0,i 0,i 0,i 0,i 0,i 0,i 0,i 0,i 0,i 0,i 0,i 0,i 0,i 0,i 0,i 0,i 0,i 0,i 0,i 0,i 0,i 0,i 0,i 0,i 0,i 0,i 0,i 0,i 0,i 0,i 0,i 0,i 0,i 0,i 0,i 0,i 0,i 0,i 0,i 0,i 0,i 0,i 0,i 0,i 0,i 0,i 0,i 0,i 0,i 0,i 0,i 0,i 0,i 0,i 0,i 0,i 0,i 0,i 0,i 0,i 0,i 0,i 0,i 0,i 0,i 0,i 0,i 0,i 0,i 0,i 0,i 0,i 0,i 0,i 0,i 0,i 0,i 0,i 0,i 0,i 0,i 0,i 0,i 0,i 0,i 0,i 0,i 0]),.d (.s 1 [i 4194304,i 4194304]),I 2,.d (.v (.slice none 0 0)),I 68,I 4,I 4,I 0]]
def er58:AV:=.t [.x (I 0),.x (I 0),.x (I 0)]
theorem ek58:FnC Tryz.prog 153 ea58 er58:=chk_fact (by kernel_rfl)
def ef58:Fact Tryz.prog:=⟨153,ea58,er58,fun σ=>ek58.call (by kernel_rfl) (by kernel_rfl)⟩
def ea59:List AV:=[.x (.d (.s 1 [u 11,u 2,u 64,u 64,u 4,u 1,u 64,u 64,u 64,u 64,u 64,u 64,u 4,u 64,u 64,u 64,u 4,u 64,u 64,u 64,u 64,u 64,u 64,u 64,u 64,u 64,u 64,u 64,u 2,u 64,u 64,u 64,u 2,u 64,u 64,u 64,u 64,u 64,u 64,u 64,u 1,u 22,u 64,u 112,u 2,u 88,u 64,u 112,u 67,u 28,u 44,u 8,u 4,u 94,u 112,u 8,u 69,u 32,u 52,u 8,u 70,u 94,u 64,u 25,u 64,u 7,u 28,u 124,u 32,u 8,u 94,u 112,u 8,u 73,u 28,u 124,u 16,u 74,u 64,u 56,u 56,u 64,u 64,u 64,u 64,u 64,u 64,u 64,u 16,u 64,u 64,u 64,u 16,u 64,u 64,u 64,u 8,u 64,u 64,u 64,u 16,u 64,u 64,u 64,u 16,u 64,u 64,u 64,u 64,u 64,u 64,u 64,u 64,u 64,u 64,u 64,u 64,u 64,u 64,u 64,u 64,u 64,u 64,u 64,u 64,u 64,u 64,u 64,u 64,u 82,u 64,u 64,u 64,u 64,u 64,u 64,u 64,u 64,u 64,u 64,u 64,u 64,u 64,u 64,u 64,u 64,u 64,u 64,u 64,u 64,u 64,u 64,u 64,u 64,u 64,u 64,u 64,u 64,u 64,u 64,u 64,u 64,u 64,u 64,u 64,u 64,u 64,u 64,u 64,u 64,u 64,u 64,u 64,u 64,u 64,u 64,u 64,u 64,u 64,u 64,u 64,u 64,u 64,u 64,u 64,u 64,u 64,u 64,u 64,u 64,u 64,u 64,u 64,u 64,u 64,u 64,u 64,u 64,u 64,u 64,u 64,u 64,u 64,u 64,u 64,u 64,u 64,u 64,u 64,u 64,u 64,u 64,u 64,u 64,u 64,u 64,u 64,u 64,u 64,u 64,u 64,u 64,u 64,u 64,u 64,u 64,u 64,u 64,u 64,u 64,u 64,u 64,u 64,u 64,u 64,u 64,u 64,u 64,u 64,u 64,u 64,u 64,u 64,u 64,u 64,u 64,u 64,u 64,u 64,u 64,u 64,u 64,u 64,u 64,u 64,u 64,u 64,u 64,u 64,u 64,u 64,u 64,u 64,u 64,u 64,u 64,u 64,u 64,u 64,u 64,u 64,u 64,u 64,u 64,u 64,u 64,u 64,u 64,u 64,u 64,u 64,u 64,u 64,u 64,u 64,u 64,u 64,u 64,u 64,u 64,u 64,u 64,u 64,u 64,u 64,u 64,u 64,u 64,u 64,u 64,u 64,u 64,u 64,u 64,u 64,u 64,u 64,u 64,u 64,u 64,u 64,u 64,u 64,u 64,u 64,u 64,u 64,u 64,u 64,u 64,u 64,u 64,u 64,u 64,u 64,u 64,u 64,u 64,u 64,u 64,u 64,u 64,u 64,u 64,u 64,u 64,u 64,u 64,u 64,u 64,u 64,u 64,u 64,u 64,u 64,u 64,u 64,u 64,u 64,u 64,u 64,u 64,u 64,u 64,u 64,u 64,u 64,u 64,u 64,u 64,u 64,u 64,u 64,u 64,u 64,u 64,u 64,u 64,u 64,u 64,u 64,u 64,u 64,u 64,u 64,u 64,u 64,u 64,u 64,u 64,u 64,u 64,u 64,u 64,u 64,u 64,u 64,u 64,u 64,u 64,u 64,u 64,u 64,u 64,u 64,u 64,u 64,u 64,u 64,u 64,u 64,u 64,u 64,u 64,u 64,u 64,u 64,u 64,u 64,u 64,u 64,u 64,u 64,u 64,u 64,u 64,u 64,u 64,u 64,u 64,u 64,u 64,u 64,u 64,u 64,u 64,u 64,u 64,u 64,u 64,u 64,u 64,u 64,u 64,u 64,u 64,u 64,u 64,u 64,u 64,u 64,u 64,u 64,u 64,u 64,u 64,u 64,u 64,u 64,u 64,u 64,u 64,u 64,u 64,u 64,u 64,u 64,u 64,u 64,u 64,u 64,u 64,u 64,u 64,u 64,u 64,u 64,u 64,u 64,u 64,u 64,u 64,u 64,u 64,u 64,u 64,u 64,u 64,u 64,u 64,u 64,u 64,u 64,u 64,u 64,u 64,u 64,u 64,u 64,u 64,u 64,u 64,u 64,u 64,u 64,u 64,u 64,u 64,u 64,u 64,u 64,u 64,u 64,u 64,u 64,u 64,u 64,u 64,u 64,u 64,u 64,u 64,u 64,u 64,u 64,u 64,u 64,u 64,u 64,u 64,u 64,u 64,u 64,u 64,u 64,u 64,u 64,u 64,u 64,u 64,u 64,u 64,u 64,u 64,u 64,u 64,u 64,u 64,u 64,u 64,u 64,u 64,u 64,u 64,u 64,u 64,u 64,u 64,u 64,u 64,u 64,u 64,u 64,u 64,u 64,u 64,u 64,u 64,u 64,u 64,u 64,u 64,u 64,u 16,u 64,u 64,u 64,u 16,u 64,u 64,u 64,u 64,u 64,u 64,u 64,u 64,u 64,u 64,u 64,u 64,u 64,u 64,u 64,u 64,u 64]))]
def er59:AV:=.t [.a [.d (.s 1 [i 12584321,i 12584450,i 2279171,i 2295684,i 2312197,i 6555526,i 8636167,i 2295688,i 4441865,i 14909450,i 0,i 4194304,i 4194304,i 2097152,i 4194304,i 4194304,i 0,i 0,i 0,i 0,i 0,i 0,i 0,i 0,i 0,i 0,i 0,i 0,i 0,i 0,i 0,i 0,i 0,i 0,i 0,i 0,i 0,i 0,i 0,i 0,i 0,i 0,i 0,i 0,i 0,i 0,i 0,i 0,i 0,i 0,i 0,i 0,i 0,i 0,i 0,i 0,i 0,i 0,i 0,i 0,i 0,i 0,i 0,i 0,i 0,i 0,i 0,i 0,i 0,i 0,i 0,i 0,i 0,i 0,i 0,i 0,i 0,i 0,i 0,i 0,i 0,i 0,i 0,i 0,i 0,i 0,i 0,i 0,i 0,i 0,i 0,i 0,i 0,i 0,i 0,i 0,i 0,i 0,i 0,i 0,i 0,i 0,i 0,i 0,i 0,i 0,i 0,i 0,i 0,i 0,i 0,i 0,i 0,i 0,i 0,i 0,i 0,i 0,i 0,i 0,i 0,i 0,i 0,i 0,i 0,i 0,i 0,i 0]),.d (.s 1 [i 4194304,i 4194304]),I 2,.d (.s 1 []),I 68,I 4,I 4,I 0],.x (I 0)]
theorem ek59:FnC Tryz.prog 106 ea59 er59:=evF0 (M:=[ef57,ef45,ef58]) (by kernel_rfl) (by kernel_rfl)
def ef59:Fact Tryz.prog:=⟨106,ea59,er59,fun σ=>ek59.call (by kernel_rfl) (by kernel_rfl)⟩
def ea60:List AV:=[.a [.d (.s 1 [i 12584321,i 12584450,i 2279171,i 2295684,i 2312197,i 6555526,i 8636167,i 2295688,i 4441865,i 14909450,i 0,i 4194304,i 4194304,i 2097152,i 4194304,i 4194304,i 0,i 0,i 0,i 0,i 0,i 0,i 0,i 0,i 0,i 0,i 0,i 0,i 0,i 0,i 0,i 0,i 0,i 0,i 0,i 0,i 0,i 0,i 0,i 0,i 0,i 0,i 0,i 0,i 0,i 0,i 0,i 0,i 0,i 0,i 0,i 0,i 0,i 0,i 0,i 0,i 0,i 0,i 0,i 0,i 0,i 0,i 0,i 0,i 0,i 0,i 0,i 0,i 0,i 0,i 0,i 0,i 0,i 0,i 0,i 0,i 0,i 0,i 0,i 0,i 0,i 0,i 0,i 0,i 0,i 0,i 0,i 0,i 0,i 0,i 0,i 0,i 0,i 0,i 0,i 0,i 0,i 0,i 0,i 0,i 0,i 0,i 0,i 0,i 0,i 0,i 0,i 0,i 0,i 0,i 0,i 0,i 0,i 0,i 0,i 0,i 0,i 0,i 0,i 0,i 0,i 0,i 0,i 0,i 0,i 0,i 0,i 0]),.d (.s 1 [i 4194304,i 4194304]),I 2,.d (.s 1 []),I 68,I 4,I 4,I 0],.x (I 5000)]
def er60:AV:=.t [.a [.d (.s 1 [i 12584321,i 12584450,i 2279171,i 2295684,i 2312197,i 6555526,i 8636167,i 2295688,i 4441865,i 14909450,i 0,i 4194304,i 4194304,i 2097152,i 5242880,i 4194304,i 2097152,i 0,i 0,i 0,i 0,i 0,i 0,i 0,i 0,i 0,i 0,i 0,i 0,i 0,i 0,i 0,i 0,i 0,i 0,i 0,i 0,i 0,i 0,i 0,i 0,i 0,i 0,i 0,i 0,i 0,i 0,i 0,i 0,i 0,i 0,i 0,i 0,i 0,i 0,i 0,i 0,i 0,i 0,i 0,i 0,i 0,i 0,i 0,i 0,i 0,i 0,i 0,i 0,i 0,i 0,i 0,i 0,i 0,i 0,i 0,i 0,i 0,i 0,i 0,i 0,i 0,i 0,i 0,i 0,i 0,i 0,i 0,i 0,i 0,i 0,i 0,i 0,i 0,i 0,i 0,i 0,i 0,i 0,i 0,i 0,i 0,i 0,i 0,i 0,i 0,i 0,i 0,i 0,i 0,i 0,i 0,i 0,i 0,i 0,i 0,i 0,i 0,i 0,i 0,i 0,i 0,i 0,i 0,i 0,i 0,i 0,i 0]),.d (.s 1 [i 4194304,i 4194304]),I 2,.d (.s 1 [i 5242880]),I 234,I 10,I 10,I 1],.x (I 0)]
theorem ek60:FnC Tryz.prog 105 ea60 er60:=run_fact (by kernel_rfl)
def ef60:Fact Tryz.prog:=⟨105,ea60,er60,fun σ=>ek60.call (by kernel_rfl) (by kernel_rfl)⟩
def ea61:List AV:=[.x (I 585)]
def er61:AV:=.x (.d (.v (.string ⟨#[53,56,53]⟩)))
theorem ek61:FnC Tryz.prog 78 ea61 er61:=itoa_fact (by kernel_rfl)
def ef61:Fact Tryz.prog:=⟨78,ea61,er61,fun σ=>ek61.call (by kernel_rfl) (by kernel_rfl)⟩
def ea62:List AV:=[.x (.d (.s 1 [[.v (.string ⟨#[53,56,53]⟩)],[.v (.string ⟨#[53,50,52,50,56,56,48]⟩)]])),.x (.d (.v (.string ⟨#[32]⟩)))]
def er62:AV:=.x (.d (.v (.string ⟨#[53,56,53,32,53,50,52,50,56,56,48]⟩)))
theorem ek62:FnC Tryz.prog 79 ea62 er62:=join_fact (by kernel_rfl)
def ef62:Fact Tryz.prog:=⟨79,ea62,er62,fun σ=>ek62.call (by kernel_rfl) (by kernel_rfl)⟩
def ea63:List AV:=[.x (.d (.v (.string ⟨#[116,119,105,110,32,102,32,54,32,49,52,32,56]⟩))),.x (.d (.v (.string ⟨#[32]⟩)))]
def er63:AV:=.x (.d (.s 1 [[.v (.string ⟨#[116,119,105,110]⟩)],[.v (.string ⟨#[102]⟩)],[.v (.string ⟨#[54]⟩)],[.v (.string ⟨#[49,52]⟩)],[.v (.string ⟨#[56]⟩)]]))
theorem ek63:FnC Tryz.prog 58 ea63 er63:=split_fact (by kernel_rfl)
def ef63:Fact Tryz.prog:=⟨58,ea63,er63,fun σ=>ek63.call (by kernel_rfl) (by kernel_rfl)⟩
def ea64:List AV:=[.x (.d (.v (.string ⟨#[54]⟩)))]
def er64:AV:=.t [.x (I 6),.x (.d (.v (.nilIface)))]
def ef64:Fact Tryz.prog:=⟨138,ea64,er64,atoi_fact (by kernel_rfl)⟩
def ea65:List AV:=[.x (I 6)]
def er65:AV:=.x (.d (.v (.string ⟨#[54]⟩)))
theorem ek65:FnC Tryz.prog 78 ea65 er65:=itoa_fact (by kernel_rfl)
def ef65:Fact Tryz.prog:=⟨78,ea65,er65,fun σ=>ek65.call (by kernel_rfl) (by kernel_rfl)⟩
def ea66:List AV:=[.x (.d (.v (.string ⟨#[49,52]⟩)))]
def er66:AV:=.t [.x (I 14),.x (.d (.v (.nilIface)))]
def ef66:Fact Tryz.prog:=⟨138,ea66,er66,atoi_fact (by kernel_rfl)⟩
def ea67:List AV:=[.x (I 14)]
def er67:AV:=.x (.d (.v (.string ⟨#[49,52]⟩)))
theorem ek67:FnC Tryz.prog 78 ea67 er67:=itoa_fact (by kernel_rfl)
def ef67:Fact Tryz.prog:=⟨78,ea67,er67,fun σ=>ek67.call (by kernel_rfl) (by kernel_rfl)⟩
def ea68:List AV:=[.a [.d (.s 1 [i 12584321,i 12584450,i 2279171,i 2295684,i 2312197,i 6555526,i 8636167,i 2295688,i 4441865,i 14909450,i 0,i 0,i 0,i 2097152,i 0,i 0,i 0,i 0,i 0,i 0,i 0,i 0,i 0,i 0,i 0,i 0,i 0,i 0,i 0,i 0,i 0,i 0,i 0,i 0,i 0,i 0,i 0,i 0,i 0,i 0,i 0,i 0,i 0,i 0,i 0,i 0,i 0,i 0,i 0,i 0,i 0,i 0,i 0,i 0,i 0,i 0,i 0,i 0,i 0,i 0,i 0,i 0,i 0,i 0,i 0,i 0,i 0,i 0,i 0,i 0,i 0,i 0,i 0,i 0,i 0,i 0,i 0,i 0,i 0,i 0,i 0,i 0,i 0,i 0,i 0,i 0,i 0,i 0,i 0,i 0,i 0,i 0,i 0,i 0,i 0,i 0,i 0,i 0,i 0,i 0,i 0,i 0,i 0,i 0,i 0,i 0,i 0,i 0,i 0,i 0,i 0,i 0,i 0,i 0,i 0,i 0,i 0,i 0,i 0,i 0,i 0,i 0,i 0,i 0,i 0,i 0,i 0,i 0]),.d (.s 1 [i 4194304,i 4194304]),I 0,.d (.v (.slice none 0 0)),I 0,I 0,I 0,I 0]]
def er68:AV:=.t [.x (I 0),.x (I 0),.x (I 0)]
theorem ek68:FnC Tryz.prog 153 ea68 er68:=chk_fact (by kernel_rfl)
def ef68:Fact Tryz.prog:=⟨153,ea68,er68,fun σ=>ek68.call (by kernel_rfl) (by kernel_rfl)⟩
def ea69:List AV:=[.a [.d (.s 1 [i 12584321,i 12584450,i 2279171,i 2295684,i 2312197,i 6555526,i 8636167,i 2295688,i 4441865,i 14909450,i 0,i 0,i 0,i 2097152,i 0,i 0,i 0,i 0,i 0,i 0,i 0,i 0,i 0,i 0,i 0,i 0,i 0,i 0,i 0,i 0,i 0,i 0,i 0,i 0,i 0,i 0,i 0,i 0,i 0,i 0,i 0,i 0,i 0,i 0,i 0,i 0,i 0,i 0,i 0,i 0,i 0,i 0,i 0,i 0,i 0,i 0,i 0,i 0,i 0,i 0,i 0,i 0,i 0,i 0,i 0,i 0,i 0,i 0,i 0,i 0,i 0,i 0,i 0,i 0,i 0,i 0,i 0,i 0,i 0,i 0,i 0,i 0,i 0,i 0,i 0,i 0,i 0,i 0,i 0,i 0,i 0,i 0,i 0,i 0,i 0,i 0,i 0,i 0,i 0,i 0,i 0,i 0,i 0,i 0,i 0,i 0,i 0,i 0,i 0,i 0,i 0,i 0,i 0,i 0,i 0,i 0,i 0,i 0,i 0,i 0,i 0,i 0,i 0,i 0,i 0,i 0,i 0,i 0]),.d (.s 1 [i 4194304,i 4194304]),I 0,.d (.v (.slice none 0 0)),I 0,I 0,I 0,I 0],.x (I 1)]
def er69:AV:=.t [.a [.d (.s 1 [i 12584321,i 12584450,i 2279171,i 2295684,i 2312197,i 6555526,i 8636167,i 2295688,i 4441865,i 14909450,i 0,i 4194304,i 0,i 2097152,i 0,i 0,i 0,i 0,i 0,i 0,i 0,i 0,i 0,i 0,i 0,i 0,i 0,i 0,i 0,i 0,i 0,i 0,i 0,i 0,i 0,i 0,i 0,i 0,i 0,i 0,i 0,i 0,i 0,i 0,i 0,i 0,i 0,i 0,i 0,i 0,i 0,i 0,i 0,i 0,i 0,i 0,i 0,i 0,i 0,i 0,i 0,i 0,i 0,i 0,i 0,i 0,i 0,i 0,i 0,i 0,i 0,i 0,i 0,i 0,i 0,i 0,i 0,i 0,i 0,i 0,i 0,i 0,i 0,i 0,i 0,i 0,i 0,i 0,i 0,i 0,i 0,i 0,i 0,i 0,i 0,i 0,i 0,i 0,i 0,i 0,i 0,i 0,i 0,i 0,i 0,i 0,i 0,i 0,i 0,i 0,i 0,i 0,i 0,i 0,i 0,i 0,i 0,i 0,i 0,i 0,i 0,i 0,i 0,i 0,i 0,i 0,i 0,i 0]),.d (.s 1 [i 4194304,i 4194304]),I 1,.d (.s 1 []),I 17,I 1,I 1,I 0],.x (I 0)]
theorem ek69:FnC Tryz.prog 105 ea69 er69:=run_fact (by kernel_rfl)
def ef69:Fact Tryz.prog:=⟨105,ea69,er69,fun σ=>ek69.call (by kernel_rfl) (by kernel_rfl)⟩
def ea70:List AV:=[.x (.d (.s 1 [i 12584321,i 12584450,i 2279171,i 2295684,i 2312197,i 6555526,i 8636167,i 2295688,i 4441865,i 14909450,i 0,i 4194304,i 0,i 2097152,i 0,i 0,i 0,i 0,i 0,i 0,i 0,i 0,i 0,i 0,i 0,i 0,i 0,i 0,i 0,i 0,i 0,i 0,i 0,i 0,i 0,i 0,i 0,i 0,i 0,i 0,i 0,i 0,i 0,i 0,i 0,i 0,i 0,i 0,i 0,i 0,i 0,i 0,i 0,i 0,i 0,i 0,i 0,i 0,i 0,i 0,i 0,i 0,i 0,i 0,i 0,i 0,i 0,i 0,i 0,i 0,i 0,i 0,i 0,i 0,i 0,i 0,i 0,i 0,i 0,i 0,i 0,i 0,i 0,i 0,i 0,i 0,i 0,i 0,i 0,i 0,i 0,i 0,i 0,i 0,i 0,i 0,i 0,i 0,i 0,i 0,i 0,i 0,i 0,i 0,i 0,i 0,i 0,i 0,i 0,i 0,i 0,i 0,i 0,i 0,i 0,i 0,i 0,i 0,i 0,i 0,i 0,i 0,i 0,i 0,i 0,i 0,i 0,i 0])),.x (.d (.s 1 [i 12584321,i 12584450,i 2279171,i 2295684,i 2312197,i 6555526,i 8636167,i 2295688,i 4441865,i 14909450,i 0,i 4194304,i 0,i 2097152,i 0,i 0,i 0,i 0,i 0,i 0,i 0,i 0,i 0,i 0,i 0,i 0,i 0,i 0,i 0,i 0,i 0,i 0,i 0,i 0,i 0,i 0,i 0,i 0,i 0,i 0,i 0,i 0,i 0,i 0,i 0,i 0,i 0,i 0,i 0,i 0,i 0,i 0,i 0,i 0,i 0,i 0,i 0,i 0,i 0,i 0,i 0,i 0,i 0,i 0,i 0,i 0,i 0,i 0,i 0,i 0,i 0,i 0,i 0,i 0,i 0,i 0,i 0,i 0,i 0,i 0,i 0,i 0,i 0,i 0,i 0,i 0,i 0,i 0,i 0,i 0,i 0,i 0,i 0,i 0,i 0,i 0,i 0,i 0,i 0,i 0,i 0,i 0,i 0,i 0,i 0,i 0,i 0,i 0,i 0,i 0,i 0,i 0,i 0,i 0,i 0,i 0,i 0,i 0,i 0,i 0,i 0,i 0,i 0,i 0,i 0,i 0,i 0,i 0]))]
def er70:AV:=.x (.d (.v (.bool true)))
theorem ek70:FnC Tryz.prog 206 ea70 er70:=evF0 (M:=[]) (by kernel_rfl) (by kernel_rfl)
def ef70:Fact Tryz.prog:=⟨206,ea70,er70,fun σ=>ek70.call (by kernel_rfl) (by kernel_rfl)⟩
def ea71:List AV:=[.a [.d (.s 1 [i 12584321,i 12584450,i 2279171,i 2295684,i 2312197,i 6555526,i 8636167,i 2295688,i 4441865,i 14909450,i 0,i 4194304,i 0,i 2097152,i 0,i 0,i 0,i 0,i 0,i 0,i 0,i 0,i 0,i 0,i 0,i 0,i 0,i 0,i 0,i 0,i 0,i 0,i 0,i 0,i 0,i 0,i 0,i 0,i 0,i 0,i 0,i 0,i 0,i 0,i 0,i 0,i 0,i 0,i 0,i 0,i 0,i 0,i 0,i 0,i 0,i 0,i 0,i 0,i 0,i 0,i 0,i 0,i 0,i 0,i 0,i 0,i 0,i 0,i 0,i 0,i 0,i 0,i 0,i 0,i 0,i 0,i 0,i 0,i 0,i 0,i 0,i 0,i 0,i 0,i 0,i 0,i 0,i 0,i 0,i 0,i 0,i 0,i 0,i 0,i 0,i 0,i 0,i 0,i 0,i 0,i 0,i 0,i 0,i 0,i 0,i 0,i 0,i 0,i 0,i 0,i 0,i 0,i 0,i 0,i 0,i 0,i 0,i 0,i 0,i 0,i 0,i 0,i 0,i 0,i 0,i 0,i 0,i 0]),.d (.s 1 [i 4194304,i 4194304]),I 1,.d (.s 1 []),I 17,I 1,I 1,I 0],.x (I 1)]
def er71:AV:=.t [.a [.d (.s 1 [i 12584321,i 12584450,i 2279171,i 2295684,i 2312197,i 6555526,i 8636167,i 2295688,i 4441865,i 14909450,i 0,i 4194304,i 4194304,i 2097152,i 0,i 0,i 0,i 0,i 0,i 0,i 0,i 0,i 0,i 0,i 0,i 0,i 0,i 0,i 0,i 0,i 0,i 0,i 0,i 0,i 0,i 0,i 0,i 0,i 0,i 0,i 0,i 0,i 0,i 0,i 0,i 0,i 0,i 0,i 0,i 0,i 0,i 0,i 0,i 0,i 0,i 0,i 0,i 0,i 0,i 0,i 0,i 0,i 0,i 0,i 0,i 0,i 0,i 0,i 0,i 0,i 0,i 0,i 0,i 0,i 0,i 0,i 0,i 0,i 0,i 0,i 0,i 0,i 0,i 0,i 0,i 0,i 0,i 0,i 0,i 0,i 0,i 0,i 0,i 0,i 0,i 0,i 0,i 0,i 0,i 0,i 0,i 0,i 0,i 0,i 0,i 0,i 0,i 0,i 0,i 0,i 0,i 0,i 0,i 0,i 0,i 0,i 0,i 0,i 0,i 0,i 0,i 0,i 0,i 0,i 0,i 0,i 0,i 0]),.d (.s 1 [i 4194304,i 4194304]),I 2,.d (.s 1 []),I 34,I 2,I 2,I 0],.x (I 0)]
theorem ek71:FnC Tryz.prog 105 ea71 er71:=run_fact (by kernel_rfl)
def ef71:Fact Tryz.prog:=⟨105,ea71,er71,fun σ=>ek71.call (by kernel_rfl) (by kernel_rfl)⟩
def ea72:List AV:=[.x (.d (.s 1 [i 12584321,i 12584450,i 2279171,i 2295684,i 2312197,i 6555526,i 8636167,i 2295688,i 4441865,i 14909450,i 0,i 4194304,i 4194304,i 2097152,i 0,i 0,i 0,i 0,i 0,i 0,i 0,i 0,i 0,i 0,i 0,i 0,i 0,i 0,i 0,i 0,i 0,i 0,i 0,i 0,i 0,i 0,i 0,i 0,i 0,i 0,i 0,i 0,i 0,i 0,i 0,i 0,i 0,i 0,i 0,i 0,i 0,i 0,i 0,i 0,i 0,i 0,i 0,i 0,i 0,i 0,i 0,i 0,i 0,i 0,i 0,i 0,i 0,i 0,i 0,i 0,i 0,i 0,i 0,i 0,i 0,i 0,i 0,i 0,i 0,i 0,i 0,i 0,i 0,i 0,i 0,i 0,i 0,i 0,i 0,i 0,i 0,i 0,i 0,i 0,i 0,i 0,i 0,i 0,i 0,i 0,i 0,i 0,i 0,i 0,i 0,i 0,i 0,i 0,i 0,i 0,i 0,i 0,i 0,i 0,i 0,i 0,i 0,i 0,i 0,i 0,i 0,i 0,i 0,i 0,i 0,i 0,i 0,i 0])),.x (.d (.s 1 [i 12584321,i 12584450,i 2279171,i 2295684,i 2312197,i 6555526,i 8636167,i 2295688,i 4441865,i 14909450,i 0,i 4194304,i 4194304,i 2097152,i 0,i 0,i 0,i 0,i 0,i 0,i 0,i 0,i 0,i 0,i 0,i 0,i 0,i 0,i 0,i 0,i 0,i 0,i 0,i 0,i 0,i 0,i 0,i 0,i 0,i 0,i 0,i 0,i 0,i 0,i 0,i 0,i 0,i 0,i 0,i 0,i 0,i 0,i 0,i 0,i 0,i 0,i 0,i 0,i 0,i 0,i 0,i 0,i 0,i 0,i 0,i 0,i 0,i 0,i 0,i 0,i 0,i 0,i 0,i 0,i 0,i 0,i 0,i 0,i 0,i 0,i 0,i 0,i 0,i 0,i 0,i 0,i 0,i 0,i 0,i 0,i 0,i 0,i 0,i 0,i 0,i 0,i 0,i 0,i 0,i 0,i 0,i 0,i 0,i 0,i 0,i 0,i 0,i 0,i 0,i 0,i 0,i 0,i 0,i 0,i 0,i 0,i 0,i 0,i 0,i 0,i 0,i 0,i 0,i 0,i 0,i 0,i 0,i 0]))]
def er72:AV:=.x (.d (.v (.bool true)))
theorem ek72:FnC Tryz.prog 206 ea72 er72:=evF0 (M:=[]) (by kernel_rfl) (by kernel_rfl)
def ef72:Fact Tryz.prog:=⟨206,ea72,er72,fun σ=>ek72.call (by kernel_rfl) (by kernel_rfl)⟩
def ea73:List AV:=[.a [.d (.s 1 [i 12584321,i 12584450,i 2279171,i 2295684,i 2312197,i 6555526,i 8636167,i 2295688,i 4441865,i 14909450,i 0,i 4194304,i 4194304,i 2097152,i 0,i 0,i 0,i 0,i 0,i 0,i 0,i 0,i 0,i 0,i 0,i 0,i 0,i 0,i 0,i 0,i 0,i 0,i 0,i 0,i 0,i 0,i 0,i 0,i 0,i 0,i 0,i 0,i 0,i 0,i 0,i 0,i 0,i 0,i 0,i 0,i 0,i 0,i 0,i 0,i 0,i 0,i 0,i 0,i 0,i 0,i 0,i 0,i 0,i 0,i 0,i 0,i 0,i 0,i 0,i 0,i 0,i 0,i 0,i 0,i 0,i 0,i 0,i 0,i 0,i 0,i 0,i 0,i 0,i 0,i 0,i 0,i 0,i 0,i 0,i 0,i 0,i 0,i 0,i 0,i 0,i 0,i 0,i 0,i 0,i 0,i 0,i 0,i 0,i 0,i 0,i 0,i 0,i 0,i 0,i 0,i 0,i 0,i 0,i 0,i 0,i 0,i 0,i 0,i 0,i 0,i 0,i 0,i 0,i 0,i 0,i 0,i 0,i 0]),.d (.s 1 [i 4194304,i 4194304]),I 2,.d (.s 1 []),I 34,I 2,I 2,I 0],.x (I 1)]
def er73:AV:=.t [.a [.d (.s 1 [i 12584321,i 12584450,i 2279171,i 2295684,i 2312197,i 6555526,i 8636167,i 2295688,i 4441865,i 14909450,i 0,i 4194304,i 4194304,i 2097152,i 4194304,i 0,i 0,i 0,i 0,i 0,i 0,i 0,i 0,i 0,i 0,i 0,i 0,i 0,i 0,i 0,i 0,i 0,i 0,i 0,i 0,i 0,i 0,i 0,i 0,i 0,i 0,i 0,i 0,i 0,i 0,i 0,i 0,i 0,i 0,i 0,i 0,i 0,i 0,i 0,i 0,i 0,i 0,i 0,i 0,i 0,i 0,i 0,i 0,i 0,i 0,i 0,i 0,i 0,i 0,i 0,i 0,i 0,i 0,i 0,i 0,i 0,i 0,i 0,i 0,i 0,i 0,i 0,i 0,i 0,i 0,i 0,i 0,i 0,i 0,i 0,i 0,i 0,i 0,i 0,i 0,i 0,i 0,i 0,i 0,i 0,i 0,i 0,i 0,i 0,i 0,i 0,i 0,i 0,i 0,i 0,i 0,i 0,i 0,i 0,i 0,i 0,i 0,i 0,i 0,i 0,i 0,i 0,i 0,i 0,i 0,i 0,i 0,i 0]),.d (.s 1 [i 4194304,i 4194304]),I 2,.d (.s 1 []),I 51,I 3,I 3,I 0],.x (I 0)]
theorem ek73:FnC Tryz.prog 105 ea73 er73:=run_fact (by kernel_rfl)
def ef73:Fact Tryz.prog:=⟨105,ea73,er73,fun σ=>ek73.call (by kernel_rfl) (by kernel_rfl)⟩
def ea74:List AV:=[.x (.d (.s 1 [i 12584321,i 12584450,i 2279171,i 2295684,i 2312197,i 6555526,i 8636167,i 2295688,i 4441865,i 14909450,i 0,i 4194304,i 4194304,i 2097152,i 4194304,i 0,i 0,i 0,i 0,i 0,i 0,i 0,i 0,i 0,i 0,i 0,i 0,i 0,i 0,i 0,i 0,i 0,i 0,i 0,i 0,i 0,i 0,i 0,i 0,i 0,i 0,i 0,i 0,i 0,i 0,i 0,i 0,i 0,i 0,i 0,i 0,i 0,i 0,i 0,i 0,i 0,i 0,i 0,i 0,i 0,i 0,i 0,i 0,i 0,i 0,i 0,i 0,i 0,i 0,i 0,i 0,i 0,i 0,i 0,i 0,i 0,i 0,i 0,i 0,i 0,i 0,i 0,i 0,i 0,i 0,i 0,i 0,i 0,i 0,i 0,i 0,i 0,i 0,i 0,i 0,i 0,i 0,i 0,i 0,i 0,i 0,i 0,i 0,i 0,i 0,i 0,i 0,i 0,i 0,i 0,i 0,i 0,i 0,i 0,i 0,i 0,i 0,i 0,i 0,i 0,i 0,i 0,i 0,i 0,i 0,i 0,i 0,i 0])),.x (.d (.s 1 [i 12584321,i 12584450,i 2279171,i 2295684,i 2312197,i 6555526,i 8636167,i 2295688,i 4441865,i 14909450,i 0,i 4194304,i 4194304,i 2097152,i 4194304,i 0,i 0,i 0,i 0,i 0,i 0,i 0,i 0,i 0,i 0,i 0,i 0,i 0,i 0,i 0,i 0,i 0,i 0,i 0,i 0,i 0,i 0,i 0,i 0,i 0,i 0,i 0,i 0,i 0,i 0,i 0,i 0,i 0,i 0,i 0,i 0,i 0,i 0,i 0,i 0,i 0,i 0,i 0,i 0,i 0,i 0,i 0,i 0,i 0,i 0,i 0,i 0,i 0,i 0,i 0,i 0,i 0,i 0,i 0,i 0,i 0,i 0,i 0,i 0,i 0,i 0,i 0,i 0,i 0,i 0,i 0,i 0,i 0,i 0,i 0,i 0,i 0,i 0,i 0,i 0,i 0,i 0,i 0,i 0,i 0,i 0,i 0,i 0,i 0,i 0,i 0,i 0,i 0,i 0,i 0,i 0,i 0,i 0,i 0,i 0,i 0,i 0,i 0,i 0,i 0,i 0,i 0,i 0,i 0,i 0,i 0,i 0,i 0]))]
def er74:AV:=.x (.d (.v (.bool true)))
theorem ek74:FnC Tryz.prog 206 ea74 er74:=evF0 (M:=[]) (by kernel_rfl) (by kernel_rfl)
def ef74:Fact Tryz.prog:=⟨206,ea74,er74,fun σ=>ek74.call (by kernel_rfl) (by kernel_rfl)⟩
def ea75:List AV:=[.a [.d (.s 1 [i 12584321,i 12584450,i 2279171,i 2295684,i 2312197,i 6555526,i 8636167,i 2295688,i 4441865,i 14909450,i 0,i 4194304,i 4194304,i 2097152,i 4194304,i 0,i 0,i 0,i 0,i 0,i 0,i 0,i 0,i 0,i 0,i 0,i 0,i 0,i 0,i 0,i 0,i 0,i 0,i 0,i 0,i 0,i 0,i 0,i 0,i 0,i 0,i 0,i 0,i 0,i 0,i 0,i 0,i 0,i 0,i 0,i 0,i 0,i 0,i 0,i 0,i 0,i 0,i 0,i 0,i 0,i 0,i 0,i 0,i 0,i 0,i 0,i 0,i 0,i 0,i 0,i 0,i 0,i 0,i 0,i 0,i 0,i 0,i 0,i 0,i 0,i 0,i 0,i 0,i 0,i 0,i 0,i 0,i 0,i 0,i 0,i 0,i 0,i 0,i 0,i 0,i 0,i 0,i 0,i 0,i 0,i 0,i 0,i 0,i 0,i 0,i 0,i 0,i 0,i 0,i 0,i 0,i 0,i 0,i 0,i 0,i 0,i 0,i 0,i 0,i 0,i 0,i 0,i 0,i 0,i 0,i 0,i 0,i 0]),.d (.s 1 [i 4194304,i 4194304]),I 2,.d (.s 1 []),I 51,I 3,I 3,I 0],.x (I 1)]
def er75:AV:=.t [.a [.d (.s 1 [i 12584321,i 12584450,i 2279171,i 2295684,i 2312197,i 6555526,i 8636167,i 2295688,i 4441865,i 14909450,i 0,i 4194304,i 4194304,i 2097152,i 4194304,i 4194304,i 0,i 0,i 0,i 0,i 0,i 0,i 0,i 0,i 0,i 0,i 0,i 0,i 0,i 0,i 0,i 0,i 0,i 0,i 0,i 0,i 0,i 0,i 0,i 0,i 0,i 0,i 0,i 0,i 0,i 0,i 0,i 0,i 0,i 0,i 0,i 0,i 0,i 0,i 0,i 0,i 0,i 0,i 0,i 0,i 0,i 0,i 0,i 0,i 0,i 0,i 0,i 0,i 0,i 0,i 0,i 0,i 0,i 0,i 0,i 0,i 0,i 0,i 0,i 0,i 0,i 0,i 0,i 0,i 0,i 0,i 0,i 0,i 0,i 0,i 0,i 0,i 0,i 0,i 0,i 0,i 0,i 0,i 0,i 0,i 0,i 0,i 0,i 0,i 0,i 0,i 0,i 0,i 0,i 0,i 0,i 0,i 0,i 0,i 0,i 0,i 0,i 0,i 0,i 0,i 0,i 0,i 0,i 0,i 0,i 0,i 0,i 0]),.d (.s 1 [i 4194304,i 4194304]),I 2,.d (.s 1 []),I 68,I 4,I 4,I 0],.x (I 0)]
theorem ek75:FnC Tryz.prog 105 ea75 er75:=run_fact (by kernel_rfl)
def ef75:Fact Tryz.prog:=⟨105,ea75,er75,fun σ=>ek75.call (by kernel_rfl) (by kernel_rfl)⟩
def ea76:List AV:=[.x (.d (.s 1 [i 12584321,i 12584450,i 2279171,i 2295684,i 2312197,i 6555526,i 8636167,i 2295688,i 4441865,i 14909450,i 0,i 4194304,i 4194304,i 2097152,i 4194304,i 4194304,i 0,i 0,i 0,i 0,i 0,i 0,i 0,i 0,i 0,i 0,i 0,i 0,i 0,i 0,i 0,i 0,i 0,i 0,i 0,i 0,i 0,i 0,i 0,i 0,i 0,i 0,i 0,i 0,i 0,i 0,i 0,i 0,i 0,i 0,i 0,i 0,i 0,i 0,i 0,i 0,i 0,i 0,i 0,i 0,i 0,i 0,i 0,i 0,i 0,i 0,i 0,i 0,i 0,i 0,i 0,i 0,i 0,i 0,i 0,i 0,i 0,i 0,i 0,i 0,i 0,i 0,i 0,i 0,i 0,i 0,i 0,i 0,i 0,i 0,i 0,i 0,i 0,i 0,i 0,i 0,i 0,i 0,i 0,i 0,i 0,i 0,i 0,i 0,i 0,i 0,i 0,i 0,i 0,i 0,i 0,i 0,i 0,i 0,i 0,i 0,i 0,i 0,i 0,i 0,i 0,i 0,i 0,i 0,i 0,i 0,i 0,i 0])),.x (.d (.s 1 [i 12584321,i 12584450,i 2279171,i 2295684,i 2312197,i 6555526,i 8636167,i 2295688,i 4441865,i 14909450,i 0,i 4194304,i 4194304,i 2097152,i 4194304,i 4194304,i 0,i 0,i 0,i 0,i 0,i 0,i 0,i 0,i 0,i 0,i 0,i 0,i 0,i 0,i 0,i 0,i 0,i 0,i 0,i 0,i 0,i 0,i 0,i 0,i 0,i 0,i 0,i 0,i 0,i 0,i 0,i 0,i 0,i 0,i 0,i 0,i 0,i 0,i 0,i 0,i 0,i 0,i 0,i 0,i 0,i 0,i 0,i 0,i 0,i 0,i 0,i 0,i 0,i 0,i 0,i 0,i 0,i 0,i 0,i 0,i 0,i 0,i 0,i 0,i 0,i 0,i 0,i 0,i 0,i 0,i 0,i 0,i 0,i 0,i 0,i 0,i 0,i 0,i 0,i 0,i 0,i 0,i 0,i 0,i 0,i 0,i 0,i 0,i 0,i 0,i 0,i 0,i 0,i 0,i 0,i 0,i 0,i 0,i 0,i 0,i 0,i 0,i 0,i 0,i 0,i 0,i 0,i 0,i 0,i 0,i 0,i 0]))]
def er76:AV:=.x (.d (.v (.bool true)))
theorem ek76:FnC Tryz.prog 206 ea76 er76:=evF0 (M:=[]) (by kernel_rfl) (by kernel_rfl)
def ef76:Fact Tryz.prog:=⟨206,ea76,er76,fun σ=>ek76.call (by kernel_rfl) (by kernel_rfl)⟩
def ea77:List AV:=[.a [.d (.s 1 [i 12584321,i 12584450,i 2279171,i 2295684,i 2312197,i 6555526,i 8636167,i 2295688,i 4441865,i 14909450,i 0,i 4194304,i 4194304,i 2097152,i 4194304,i 4194304,i 0,i 0,i 0,i 0,i 0,i 0,i 0,i 0,i 0,i 0,i 0,i 0,i 0,i 0,i 0,i 0,i 0,i 0,i 0,i 0,i 0,i 0,i 0,i 0,i 0,i 0,i 0,i 0,i 0,i 0,i 0,i 0,i 0,i 0,i 0,i 0,i 0,i 0,i 0,i 0,i 0,i 0,i 0,i 0,i 0,i 0,i 0,i 0,i 0,i 0,i 0,i 0,i 0,i 0,i 0,i 0,i 0,i 0,i 0,i 0,i 0,i 0,i 0,i 0,i 0,i 0,i 0,i 0,i 0,i 0,i 0,i 0,i 0,i 0,i 0,i 0,i 0,i 0,i 0,i 0,i 0,i 0,i 0,i 0,i 0,i 0,i 0,i 0,i 0,i 0,i 0,i 0,i 0,i 0,i 0,i 0,i 0,i 0,i 0,i 0,i 0,i 0,i 0,i 0,i 0,i 0,i 0,i 0,i 0,i 0,i 0,i 0]),.d (.s 1 [i 4194304,i 4194304]),I 2,.d (.s 1 []),I 68,I 4,I 4,I 0],.x (I 1)]
def er77:AV:=.t [.a [.d (.s 1 [i 12584321,i 12584450,i 2279171,i 2295684,i 2312197,i 6555526,i 8636167,i 2295688,i 4441865,i 14909450,i 0,i 4194304,i 4194304,i 2097152,i 4194304,i 4194304,i 2097152,i 0,i 0,i 0,i 0,i 0,i 0,i 0,i 0,i 0,i 0,i 0,i 0,i 0,i 0,i 0,i 0,i 0,i 0,i 0,i 0,i 0,i 0,i 0,i 0,i 0,i 0,i 0,i 0,i 0,i 0,i 0,i 0,i 0,i 0,i 0,i 0,i 0,i 0,i 0,i 0,i 0,i 0,i 0,i 0,i 0,i 0,i 0,i 0,i 0,i 0,i 0,i 0,i 0,i 0,i 0,i 0,i 0,i 0,i 0,i 0,i 0,i 0,i 0,i 0,i 0,i 0,i 0,i 0,i 0,i 0,i 0,i 0,i 0,i 0,i 0,i 0,i 0,i 0,i 0,i 0,i 0,i 0,i 0,i 0,i 0,i 0,i 0,i 0,i 0,i 0,i 0,i 0,i 0,i 0,i 0,i 0,i 0,i 0,i 0,i 0,i 0,i 0,i 0,i 0,i 0,i 0,i 0,i 0,i 0,i 0,i 0]),.d (.s 1 [i 4194304,i 4194304]),I 2,.d (.s 1 []),I 85,I 5,I 5,I 0],.x (I 0)]
theorem ek77:FnC Tryz.prog 105 ea77 er77:=run_fact (by kernel_rfl)
def ef77:Fact Tryz.prog:=⟨105,ea77,er77,fun σ=>ek77.call (by kernel_rfl) (by kernel_rfl)⟩
end Go.Proofs.YtidkoikjdghlmaaGreatDoor
namespace Go.Proofs.YtidkoikjdghlmaaGreatDoor
open Go Go.QL FoT
set_option maxRecDepth 1000000
def ea78:List AV:=[.x (.d (.s 1 [i 12584321,i 12584450,i 2279171,i 2295684,i 2312197,i 6555526,i 8636167,i 2295688,i 4441865,i 14909450,i 0,i 4194304,i 4194304,i 2097152,i 4194304,i 4194304,i 2097152,i 0,i 0,i 0,i 0,i 0,i 0,i 0,i 0,i 0,i 0,i 0,i 0,i 0,i 0,i 0,i 0,i 0,i 0,i 0,i 0,i 0,i 0,i 0,i 0,i 0,i 0,i 0,i 0,i 0,i 0,i 0,i 0,i 0,i 0,i 0,i 0,i 0,i 0,i 0,i 0,i 0,i 0,i 0,i 0,i 0,i 0,i 0,i 0,i 0,i 0,i 0,i 0,i 0,i 0,i 0,i 0,i 0,i 0,i 0,i 0,i 0,i 0,i 0,i 0,i 0,i 0,i 0,i 0,i 0,i 0,i 0,i 0,i 0,i 0,i 0,i 0,i 0,i 0,i 0,i 0,i 0,i 0,i 0,i 0,i 0,i 0,i 0,i 0,i 0,i 0,i 0,i 0,i 0,i 0,i 0,i 0,i 0,i 0,i 0,i 0,i 0,i 0,i 0,i 0,i 0,i 0,i 0,i 0,i 0,i 0,i 0])),.x (.d (.s 1 [i 12584321,i 12584450,i 2279171,i 2295684,i 2312197,i 6555526,i 8636167,i 2295688,i 4441865,i 14909450,i 0,i 4194304,i 4194304,i 2097152,i 4194304,i 4194304,i 2097152,i 0,i 0,i 0,i 0,i 0,i 0,i 0,i 0,i 0,i 0,i 0,i 0,i 0,i 0,i 0,i 0,i 0,i 0,i 0,i 0,i 0,i 0,i 0,i 0,i 0,i 0,i 0,i 0,i 0,i 0,i 0,i 0,i 0,i 0,i 0,i 0,i 0,i 0,i 0,i 0,i 0,i 0,i 0,i 0,i 0,i 0,i 0,i 0,i 0,i 0,i 0,i 0,i 0,i 0,i 0,i 0,i 0,i 0,i 0,i 0,i 0,i 0,i 0,i 0,i 0,i 0,i 0,i 0,i 0,i 0,i 0,i 0,i 0,i 0,i 0,i 0,i 0,i 0,i 0,i 0,i 0,i 0,i 0,i 0,i 0,i 0,i 0,i 0,i 0,i 0,i 0,i 0,i 0,i 0,i 0,i 0,i 0,i 0,i 0,i 0,i 0,i 0,i 0,i 0,i 0,i 0,i 0,i 0,i 0,i 0,i 0]))]
def er78:AV:=.x (.d (.v (.bool true)))
theorem ek78:FnC Tryz.prog 206 ea78 er78:=evF0 (M:=[]) (by kernel_rfl) (by kernel_rfl)
def ef78:Fact Tryz.prog:=⟨206,ea78,er78,fun σ=>ek78.call (by kernel_rfl) (by kernel_rfl)⟩
def ea79:List AV:=[.a [.d (.s 1 [i 12584321,i 12584450,i 2279171,i 2295684,i 2312197,i 6555526,i 8636167,i 2295688,i 4441865,i 14909450,i 0,i 4194304,i 4194304,i 2097152,i 4194304,i 4194304,i 2097152,i 0,i 0,i 0,i 0,i 0,i 0,i 0,i 0,i 0,i 0,i 0,i 0,i 0,i 0,i 0,i 0,i 0,i 0,i 0,i 0,i 0,i 0,i 0,i 0,i 0,i 0,i 0,i 0,i 0,i 0,i 0,i 0,i 0,i 0,i 0,i 0,i 0,i 0,i 0,i 0,i 0,i 0,i 0,i 0,i 0,i 0,i 0,i 0,i 0,i 0,i 0,i 0,i 0,i 0,i 0,i 0,i 0,i 0,i 0,i 0,i 0,i 0,i 0,i 0,i 0,i 0,i 0,i 0,i 0,i 0,i 0,i 0,i 0,i 0,i 0,i 0,i 0,i 0,i 0,i 0,i 0,i 0,i 0,i 0,i 0,i 0,i 0,i 0,i 0,i 0,i 0,i 0,i 0,i 0,i 0,i 0,i 0,i 0,i 0,i 0,i 0,i 0,i 0,i 0,i 0,i 0,i 0,i 0,i 0,i 0,i 0]),.d (.s 1 [i 4194304,i 4194304]),I 2,.d (.s 1 []),I 85,I 5,I 5,I 0],.x (I 1)]
def er79:AV:=.t [.a [.d (.s 1 [i 12584321,i 12584450,i 2279171,i 2295684,i 2312197,i 6555526,i 8636167,i 2295688,i 4441865,i 14909450,i 0,i 4194304,i 4194304,i 2097152,i 4194304,i 2097152,i 2097152,i 0,i 0,i 0,i 0,i 0,i 0,i 0,i 0,i 0,i 0,i 0,i 0,i 0,i 0,i 0,i 0,i 0,i 0,i 0,i 0,i 0,i 0,i 0,i 0,i 0,i 0,i 0,i 0,i 0,i 0,i 0,i 0,i 0,i 0,i 0,i 0,i 0,i 0,i 0,i 0,i 0,i 0,i 0,i 0,i 0,i 0,i 0,i 0,i 0,i 0,i 0,i 0,i 0,i 0,i 0,i 0,i 0,i 0,i 0,i 0,i 0,i 0,i 0,i 0,i 0,i 0,i 0,i 0,i 0,i 0,i 0,i 0,i 0,i 0,i 0,i 0,i 0,i 0,i 0,i 0,i 0,i 0,i 0,i 0,i 0,i 0,i 0,i 0,i 0,i 0,i 0,i 0,i 0,i 0,i 0,i 0,i 0,i 0,i 0,i 0,i 0,i 0,i 0,i 0,i 0,i 0,i 0,i 0,i 0,i 0,i 0]),.d (.s 1 [i 4194304,i 4194304]),I 2,.d (.s 1 []),I 118,I 6,I 6,I 0],.x (I 0)]
theorem ek79:FnC Tryz.prog 105 ea79 er79:=run_fact (by kernel_rfl)
def ef79:Fact Tryz.prog:=⟨105,ea79,er79,fun σ=>ek79.call (by kernel_rfl) (by kernel_rfl)⟩
def ea80:List AV:=[.x (.d (.s 1 [i 12584321,i 12584450,i 2279171,i 2295684,i 2312197,i 6555526,i 8636167,i 2295688,i 4441865,i 14909450,i 0,i 4194304,i 4194304,i 2097152,i 4194304,i 2097152,i 2097152,i 0,i 0,i 0,i 0,i 0,i 0,i 0,i 0,i 0,i 0,i 0,i 0,i 0,i 0,i 0,i 0,i 0,i 0,i 0,i 0,i 0,i 0,i 0,i 0,i 0,i 0,i 0,i 0,i 0,i 0,i 0,i 0,i 0,i 0,i 0,i 0,i 0,i 0,i 0,i 0,i 0,i 0,i 0,i 0,i 0,i 0,i 0,i 0,i 0,i 0,i 0,i 0,i 0,i 0,i 0,i 0,i 0,i 0,i 0,i 0,i 0,i 0,i 0,i 0,i 0,i 0,i 0,i 0,i 0,i 0,i 0,i 0,i 0,i 0,i 0,i 0,i 0,i 0,i 0,i 0,i 0,i 0,i 0,i 0,i 0,i 0,i 0,i 0,i 0,i 0,i 0,i 0,i 0,i 0,i 0,i 0,i 0,i 0,i 0,i 0,i 0,i 0,i 0,i 0,i 0,i 0,i 0,i 0,i 0,i 0,i 0])),.x (.d (.s 1 [i 12584321,i 12584450,i 2279171,i 2295684,i 2312197,i 6555526,i 8636167,i 2295688,i 4441865,i 14909450,i 0,i 4194304,i 4194304,i 2097152,i 4194304,i 2097152,i 2097152,i 0,i 0,i 0,i 0,i 0,i 0,i 0,i 0,i 0,i 0,i 0,i 0,i 0,i 0,i 0,i 0,i 0,i 0,i 0,i 0,i 0,i 0,i 0,i 0,i 0,i 0,i 0,i 0,i 0,i 0,i 0,i 0,i 0,i 0,i 0,i 0,i 0,i 0,i 0,i 0,i 0,i 0,i 0,i 0,i 0,i 0,i 0,i 0,i 0,i 0,i 0,i 0,i 0,i 0,i 0,i 0,i 0,i 0,i 0,i 0,i 0,i 0,i 0,i 0,i 0,i 0,i 0,i 0,i 0,i 0,i 0,i 0,i 0,i 0,i 0,i 0,i 0,i 0,i 0,i 0,i 0,i 0,i 0,i 0,i 0,i 0,i 0,i 0,i 0,i 0,i 0,i 0,i 0,i 0,i 0,i 0,i 0,i 0,i 0,i 0,i 0,i 0,i 0,i 0,i 0,i 0,i 0,i 0,i 0,i 0,i 0]))]
def er80:AV:=.x (.d (.v (.bool true)))
theorem ek80:FnC Tryz.prog 206 ea80 er80:=evF0 (M:=[]) (by kernel_rfl) (by kernel_rfl)
def ef80:Fact Tryz.prog:=⟨206,ea80,er80,fun σ=>ek80.call (by kernel_rfl) (by kernel_rfl)⟩
def ea81:List AV:=[.a [.d (.s 1 [i 12584321,i 12584450,i 2279171,i 2295684,i 2312197,i 6555526,i 8636167,i 2295688,i 4441865,i 14909450,i 0,i 4194304,i 4194304,i 2097152,i 4194304,i 2097152,i 2097152,i 0,i 0,i 0,i 0,i 0,i 0,i 0,i 0,i 0,i 0,i 0,i 0,i 0,i 0,i 0,i 0,i 0,i 0,i 0,i 0,i 0,i 0,i 0,i 0,i 0,i 0,i 0,i 0,i 0,i 0,i 0,i 0,i 0,i 0,i 0,i 0,i 0,i 0,i 0,i 0,i 0,i 0,i 0,i 0,i 0,i 0,i 0,i 0,i 0,i 0,i 0,i 0,i 0,i 0,i 0,i 0,i 0,i 0,i 0,i 0,i 0,i 0,i 0,i 0,i 0,i 0,i 0,i 0,i 0,i 0,i 0,i 0,i 0,i 0,i 0,i 0,i 0,i 0,i 0,i 0,i 0,i 0,i 0,i 0,i 0,i 0,i 0,i 0,i 0,i 0,i 0,i 0,i 0,i 0,i 0,i 0,i 0,i 0,i 0,i 0,i 0,i 0,i 0,i 0,i 0,i 0,i 0,i 0,i 0,i 0,i 0]),.d (.s 1 [i 4194304,i 4194304]),I 2,.d (.s 1 []),I 118,I 6,I 6,I 0],.x (I 1)]
def er81:AV:=.t [.a [.d (.s 1 [i 12584321,i 12584450,i 2279171,i 2295684,i 2312197,i 6555526,i 8636167,i 2295688,i 4441865,i 14909450,i 0,i 4194304,i 4194304,i 2097152,i 1048576,i 2097152,i 2097152,i 0,i 0,i 0,i 0,i 0,i 0,i 0,i 0,i 0,i 0,i 0,i 0,i 0,i 0,i 0,i 0,i 0,i 0,i 0,i 0,i 0,i 0,i 0,i 0,i 0,i 0,i 0,i 0,i 0,i 0,i 0,i 0,i 0,i 0,i 0,i 0,i 0,i 0,i 0,i 0,i 0,i 0,i 0,i 0,i 0,i 0,i 0,i 0,i 0,i 0,i 0,i 0,i 0,i 0,i 0,i 0,i 0,i 0,i 0,i 0,i 0,i 0,i 0,i 0,i 0,i 0,i 0,i 0,i 0,i 0,i 0,i 0,i 0,i 0,i 0,i 0,i 0,i 0,i 0,i 0,i 0,i 0,i 0,i 0,i 0,i 0,i 0,i 0,i 0,i 0,i 0,i 0,i 0,i 0,i 0,i 0,i 0,i 0,i 0,i 0,i 0,i 0,i 0,i 0,i 0,i 0,i 0,i 0,i 0,i 0,i 0]),.d (.s 1 [i 4194304,i 4194304]),I 2,.d (.s 1 []),I 167,I 7,I 7,I 0],.x (I 0)]
theorem ek81:FnC Tryz.prog 105 ea81 er81:=run_fact (by kernel_rfl)
def ef81:Fact Tryz.prog:=⟨105,ea81,er81,fun σ=>ek81.call (by kernel_rfl) (by kernel_rfl)⟩
def ea82:List AV:=[.a [.d (.s 1 [i 12584321,i 12584450,i 2279171,i 2295684,i 2312197,i 6555526,i 8636167,i 2295688,i 4441865,i 14909450,i 0,i 4194304,i 4194304,i 2097152,i 4194312,i 2097152,i 2097152,i 0,i 0,i 0,i 0,i 0,i 0,i 0,i 0,i 0,i 0,i 0,i 0,i 0,i 0,i 0,i 0,i 0,i 0,i 0,i 0,i 0,i 0,i 0,i 0,i 0,i 0,i 0,i 0,i 0,i 0,i 0,i 0,i 0,i 0,i 0,i 0,i 0,i 0,i 0,i 0,i 0,i 0,i 0,i 0,i 0,i 0,i 0,i 0,i 0,i 0,i 0,i 0,i 0,i 0,i 0,i 0,i 0,i 0,i 0,i 0,i 0,i 0,i 0,i 0,i 0,i 0,i 0,i 0,i 0,i 0,i 0,i 0,i 0,i 0,i 0,i 0,i 0,i 0,i 0,i 0,i 0,i 0,i 0,i 0,i 0,i 0,i 0,i 0,i 0,i 0,i 0,i 0,i 0,i 0,i 0,i 0,i 0,i 0,i 0,i 0,i 0,i 0,i 0,i 0,i 0,i 0,i 0,i 0,i 0,i 0,i 0]),.d (.s 1 [i 4194304,i 4194304]),I 2,.d (.s 1 []),I 118,I 6,I 6,I 0],.x (I 1)]
def er82:AV:=.t [.a [.d (.s 1 [i 12584321,i 12584450,i 2279171,i 2295684,i 2312197,i 6555526,i 8636167,i 2295688,i 4441865,i 14909450,i 0,i 4194304,i 4194304,i 2097152,i 1048578,i 2097152,i 2097152,i 0,i 0,i 0,i 0,i 0,i 0,i 0,i 0,i 0,i 0,i 0,i 0,i 0,i 0,i 0,i 0,i 0,i 0,i 0,i 0,i 0,i 0,i 0,i 0,i 0,i 0,i 0,i 0,i 0,i 0,i 0,i 0,i 0,i 0,i 0,i 0,i 0,i 0,i 0,i 0,i 0,i 0,i 0,i 0,i 0,i 0,i 0,i 0,i 0,i 0,i 0,i 0,i 0,i 0,i 0,i 0,i 0,i 0,i 0,i 0,i 0,i 0,i 0,i 0,i 0,i 0,i 0,i 0,i 0,i 0,i 0,i 0,i 0,i 0,i 0,i 0,i 0,i 0,i 0,i 0,i 0,i 0,i 0,i 0,i 0,i 0,i 0,i 0,i 0,i 0,i 0,i 0,i 0,i 0,i 0,i 0,i 0,i 0,i 0,i 0,i 0,i 0,i 0,i 0,i 0,i 0,i 0,i 0,i 0,i 0,i 0]),.d (.s 1 [i 4194304,i 4194304]),I 2,.d (.s 1 []),I 167,I 7,I 7,I 0],.x (I 0)]
theorem ek82:FnC Tryz.prog 105 ea82 er82:=run_fact (by kernel_rfl)
def ef82:Fact Tryz.prog:=⟨105,ea82,er82,fun σ=>ek82.call (by kernel_rfl) (by kernel_rfl)⟩
def ea83:List AV:=[.a [.d (.s 1 [i 12584321,i 12584450,i 2279171,i 2295684,i 2312197,i 6555526,i 8636167,i 2295688,i 4441865,i 14909450,i 0,i 0,i 0,i 2097152,i 0,i 0,i 0,i 0,i 0,i 0,i 0,i 0,i 0,i 0,i 0,i 0,i 0,i 0,i 0,i 0,i 0,i 0,i 0,i 0,i 0,i 0,i 0,i 0,i 0,i 0,i 0,i 0,i 0,i 0,i 0,i 0,i 0,i 0,i 0,i 0,i 0,i 0,i 0,i 0,i 0,i 0,i 0,i 0,i 0,i 0,i 0,i 0,i 0,i 0,i 0,i 0,i 0,i 0,i 0,i 0,i 0,i 0,i 0,i 0,i 0,i 0,i 0,i 0,i 0,i 0,i 0,i 0,i 0,i 0,i 0,i 0,i 0,i 0,i 0,i 0,i 0,i 0,i 0,i 0,i 0,i 0,i 0,i 0,i 0,i 0,i 0,i 0,i 0,i 0,i 0,i 0,i 0,i 0,i 0,i 0,i 0,i 0,i 0,i 0,i 0,i 0,i 0,i 0,i 0,i 0,i 0,i 0,i 0,i 0,i 0,i 0,i 0,i 0]),.d (.s 1 [i 4194304,i 4194304]),I 0,.d (.v (.slice none 0 0)),I 0,I 0,I 0,I 0],.x (.d (.s 3 [[.v (.int .i64 (6)),.v (.int .i64 (14)),.v (.int .i64 (8))]])),.x (I 1000)]
def er83:AV:=.t [.x (I 6),.a [I 6,I 4,I 15,I 14,I 7,I 118,I 167],.x (I 0)]
theorem ek83:FnC Tryz.prog 101 ea83 er83:=evF0 (M:=[ef68,ef69,ef70,ef71,ef72,ef73,ef74,ef75,ef76,ef77,ef78,ef79,ef80,ef81,ef82]) (by kernel_rfl) (by kernel_rfl)
def ef83:Fact Tryz.prog:=⟨101,ea83,er83,fun σ=>ek83.call (by kernel_rfl) (by kernel_rfl)⟩
def ea84:List AV:=[.x (.d (.s 1 [[.v (.string ⟨#[54]⟩)],[.v (.string ⟨#[54]⟩)]])),.x (.d (.v (.string ⟨#[32]⟩)))]
def er84:AV:=.x (.d (.v (.string ⟨#[54,32,54]⟩)))
theorem ek84:FnC Tryz.prog 79 ea84 er84:=join_fact (by kernel_rfl)
def ef84:Fact Tryz.prog:=⟨79,ea84,er84,fun σ=>ek84.call (by kernel_rfl) (by kernel_rfl)⟩
def ea85:List AV:=[.x (.d (.v (.string ⟨#[98,105,108,108,32,97,110,110]⟩))),.x (.d (.v (.string ⟨#[32]⟩)))]
def er85:AV:=.x (.d (.s 1 [[.v (.string ⟨#[98,105,108,108]⟩)],[.v (.string ⟨#[97,110,110]⟩)]]))
theorem ek85:FnC Tryz.prog 58 ea85 er85:=split_fact (by kernel_rfl)
def ef85:Fact Tryz.prog:=⟨58,ea85,er85,fun σ=>ek85.call (by kernel_rfl) (by kernel_rfl)⟩
def ea86:List AV:=[.x (I 15)]
def er86:AV:=.x (.d (.v (.string ⟨#[49,53]⟩)))
theorem ek86:FnC Tryz.prog 78 ea86 er86:=itoa_fact (by kernel_rfl)
def ef86:Fact Tryz.prog:=⟨78,ea86,er86,fun σ=>ek86.call (by kernel_rfl) (by kernel_rfl)⟩
def ea87:List AV:=[.x (.d (.s 1 [[.v (.string ⟨#[49,53]⟩)]])),.x (.d (.v (.string ⟨#[32]⟩)))]
def er87:AV:=.x (.d (.v (.string ⟨#[49,53]⟩)))
theorem ek87:FnC Tryz.prog 79 ea87 er87:=join_fact (by kernel_rfl)
def ef87:Fact Tryz.prog:=⟨79,ea87,er87,fun σ=>ek87.call (by kernel_rfl) (by kernel_rfl)⟩
def ea88:List AV:=[.x (.d (.v (.string ⟨#[102,97,117,108,116,32,49,48]⟩))),.x (.d (.v (.string ⟨#[32]⟩)))]
def er88:AV:=.x (.d (.s 1 [[.v (.string ⟨#[102,97,117,108,116]⟩)],[.v (.string ⟨#[49,48]⟩)]]))
theorem ek88:FnC Tryz.prog 58 ea88 er88:=split_fact (by kernel_rfl)
def ef88:Fact Tryz.prog:=⟨58,ea88,er88,fun σ=>ek88.call (by kernel_rfl) (by kernel_rfl)⟩
def ea89:List AV:=[.x (.d (.v (.string ⟨#[49,48]⟩)))]
def er89:AV:=.t [.x (I 10),.x (.d (.v (.nilIface)))]
def ef89:Fact Tryz.prog:=⟨138,ea89,er89,atoi_fact (by kernel_rfl)⟩
def ea90:List AV:=[.x (I 10)]
def er90:AV:=.x (.d (.v (.string ⟨#[49,48]⟩)))
theorem ek90:FnC Tryz.prog 78 ea90 er90:=itoa_fact (by kernel_rfl)
def ef90:Fact Tryz.prog:=⟨78,ea90,er90,fun σ=>ek90.call (by kernel_rfl) (by kernel_rfl)⟩
def ea91:List AV:=[.x (.d (.v (.string ⟨#[114,117,110,32,51,48]⟩))),.x (.d (.v (.string ⟨#[32]⟩)))]
def er91:AV:=.x (.d (.s 1 [[.v (.string ⟨#[114,117,110]⟩)],[.v (.string ⟨#[51,48]⟩)]]))
theorem ek91:FnC Tryz.prog 58 ea91 er91:=split_fact (by kernel_rfl)
def ef91:Fact Tryz.prog:=⟨58,ea91,er91,fun σ=>ek91.call (by kernel_rfl) (by kernel_rfl)⟩
def ea92:List AV:=[.x (.d (.v (.string ⟨#[51,48]⟩)))]
def er92:AV:=.t [.x (I 30),.x (.d (.v (.nilIface)))]
def ef92:Fact Tryz.prog:=⟨138,ea92,er92,atoi_fact (by kernel_rfl)⟩
def ea93:List AV:=[.x (I 30)]
def er93:AV:=.x (.d (.v (.string ⟨#[51,48]⟩)))
theorem ek93:FnC Tryz.prog 78 ea93 er93:=itoa_fact (by kernel_rfl)
def ef93:Fact Tryz.prog:=⟨78,ea93,er93,fun σ=>ek93.call (by kernel_rfl) (by kernel_rfl)⟩
def ea94:List AV:=[.x (I 38)]
def er94:AV:=.x (.d (.v (.string ⟨#[51,56]⟩)))
theorem ek94:FnC Tryz.prog 78 ea94 er94:=itoa_fact (by kernel_rfl)
def ef94:Fact Tryz.prog:=⟨78,ea94,er94,fun σ=>ek94.call (by kernel_rfl) (by kernel_rfl)⟩
def ea95:List AV:=[.x (.d (.s 1 [[.v (.string ⟨#[97,116]⟩)],[.v (.string ⟨#[51,56]⟩)],[.v (.string ⟨#[114]⟩)],[.v (.string ⟨#[45]⟩)]])),.x (.d (.v (.string ⟨#[32]⟩)))]
def er95:AV:=.x (.d (.v (.string ⟨#[97,116,32,51,56,32,114,32,45]⟩)))
theorem ek95:FnC Tryz.prog 79 ea95 er95:=join_fact (by kernel_rfl)
def ef95:Fact Tryz.prog:=⟨79,ea95,er95,fun σ=>ek95.call (by kernel_rfl) (by kernel_rfl)⟩
def ea96:List AV:=[.x (.d (.v (.string ⟨#[109,97,114,103,105,110,32,48]⟩))),.x (.d (.v (.string ⟨#[32]⟩)))]
def er96:AV:=.x (.d (.s 1 [[.v (.string ⟨#[109,97,114,103,105,110]⟩)],[.v (.string ⟨#[48]⟩)]]))
theorem ek96:FnC Tryz.prog 58 ea96 er96:=split_fact (by kernel_rfl)
def ef96:Fact Tryz.prog:=⟨58,ea96,er96,fun σ=>ek96.call (by kernel_rfl) (by kernel_rfl)⟩
def ea97:List AV:=[.x (.d (.v (.string ⟨#[48]⟩)))]
def er97:AV:=.t [.x (I 0),.x (.d (.v (.nilIface)))]
def ef97:Fact Tryz.prog:=⟨138,ea97,er97,atoi_fact (by kernel_rfl)⟩
def ea98:List AV:=[.x (I 0)]
def er98:AV:=.x (.d (.v (.string ⟨#[48]⟩)))
theorem ek98:FnC Tryz.prog 78 ea98 er98:=itoa_fact (by kernel_rfl)
def ef98:Fact Tryz.prog:=⟨78,ea98,er98,fun σ=>ek98.call (by kernel_rfl) (by kernel_rfl)⟩
def ea99:List AV:=[.a [I 1000,I 1,I 3,.d (.s 2 [[.v (.int .i64 (1000)),.v (.int .i64 (300))],[.v (.int .i64 (900)),.v (.int .i64 (500))],[.v (.int .i64 (800)),.v (.int .i64 (700))]])],.x (.d (.v (.slice none 0 0))),.x (I 0)]
def er99:AV:=.t [.a [I 234,I 701],.x (I 0)]
theorem ek99:FnC Tryz.prog 71 ea99 er99:=evF0 (M:=[ef0]) (by kernel_rfl) (by kernel_rfl)
def ef99:Fact Tryz.prog:=⟨71,ea99,er99,fun σ=>ek99.call (by kernel_rfl) (by kernel_rfl)⟩
def ea100:List AV:=[.x (I 1000)]
def er100:AV:=.x (.d (.v (.string ⟨#[49,48,48,48]⟩)))
theorem ek100:FnC Tryz.prog 78 ea100 er100:=itoa_fact (by kernel_rfl)
def ef100:Fact Tryz.prog:=⟨78,ea100,er100,fun σ=>ek100.call (by kernel_rfl) (by kernel_rfl)⟩
def ea101:List AV:=[.x (I 234)]
def er101:AV:=.x (.d (.v (.string ⟨#[50,51,52]⟩)))
theorem ek101:FnC Tryz.prog 78 ea101 er101:=itoa_fact (by kernel_rfl)
def ef101:Fact Tryz.prog:=⟨78,ea101,er101,fun σ=>ek101.call (by kernel_rfl) (by kernel_rfl)⟩
def ea102:List AV:=[.x (I 701)]
def er102:AV:=.x (.d (.v (.string ⟨#[55,48,49]⟩)))
theorem ek102:FnC Tryz.prog 78 ea102 er102:=itoa_fact (by kernel_rfl)
def ef102:Fact Tryz.prog:=⟨78,ea102,er102,fun σ=>ek102.call (by kernel_rfl) (by kernel_rfl)⟩
def ea103:List AV:=[.x (.d (.s 1 [[.v (.string ⟨#[49,48,48,48]⟩)],[.v (.string ⟨#[49,48,48,48]⟩)],[.v (.string ⟨#[50,51,52]⟩)],[.v (.string ⟨#[55,48,49]⟩)]])),.x (.d (.v (.string ⟨#[32]⟩)))]
def er103:AV:=.x (.d (.v (.string ⟨#[49,48,48,48,32,49,48,48,48,32,50,51,52,32,55,48,49]⟩)))
theorem ek103:FnC Tryz.prog 79 ea103 er103:=join_fact (by kernel_rfl)
def ef103:Fact Tryz.prog:=⟨79,ea103,er103,fun σ=>ek103.call (by kernel_rfl) (by kernel_rfl)⟩
def ea104:List AV:=[.x (.d (.v (.string ⟨#[104,101,108,108,111]⟩))),.x (.d (.v (.string ⟨#[32]⟩)))]
def er104:AV:=.x (.d (.s 1 [[.v (.string ⟨#[104,101,108,108,111]⟩)]]))
theorem ek104:FnC Tryz.prog 58 ea104 er104:=split_fact (by kernel_rfl)
def ef104:Fact Tryz.prog:=⟨58,ea104,er104,fun σ=>ek104.call (by kernel_rfl) (by kernel_rfl)⟩
def ea105:List AV:=[.x (.d (.s 1 [[.v (.string ⟨#[101,114,114,111,114]⟩)],[.v (.string ⟨#[54]⟩)]])),.x (.d (.v (.string ⟨#[32]⟩)))]
def er105:AV:=.x (.d (.v (.string ⟨#[101,114,114,111,114,32,54]⟩)))
theorem ek105:FnC Tryz.prog 79 ea105 er105:=join_fact (by kernel_rfl)
def ef105:Fact Tryz.prog:=⟨79,ea105,er105,fun σ=>ek105.call (by kernel_rfl) (by kernel_rfl)⟩
end Go.Proofs.YtidkoikjdghlmaaGreatDoor
namespace Go.Proofs.YtidkoikjdghlmaaGreatDoor
open Go Go.QL FoT
set_option maxRecDepth 1000000
def ea106:List AV:=[.a [I 10,I 2,I 1,I 30,I 5,.d (.s 1 [[.v (.string ⟨#[97,110,110]⟩)],[.v (.string ⟨#[98,111]⟩)]]),.d (.s 4 [[.v (.int .i64 (1000)),.v (.int .i64 (1)),.v (.int .i64 (3)),.s 2 [[.v (.int .i64 (1000)),.v (.int .i64 (300))],[.v (.int .i64 (900)),.v (.int .i64 (500))],[.v (.int .i64 (800)),.v (.int .i64 (700))]]]])],.x (.d (.s 1 [[.v (.string ⟨#[106,111,98,32,102,32,97,110,110,32,56,32,97,42,40,98,45,48,46,50,53,41,43,98,32,52,49,57,52,51,48,52,32,52,49,57,52,51,48,52]⟩)],[.v (.string ⟨#[99,97,108,108,32,114,32,98,111,32,50,48,32,114,111,111,116,32,50,48,57,55,49,53,50]⟩)],[.v (.string ⟨#[106,111,98,32,102,32,97,110,110,32,56,32,97,32,53]⟩)],[.v (.string ⟨#[114,117,110,32,49]⟩)],[.v (.string ⟨#[100,117,109,112,32,102,32,52]⟩)],[.v (.string ⟨#[116,119,105,110,32,102,32,54,32,49,52,32,56]⟩)],[.v (.string ⟨#[98,105,108,108,32,97,110,110]⟩)],[.v (.string ⟨#[102,97,117,108,116,32,49,48]⟩)],[.v (.string ⟨#[114,117,110,32,51,48]⟩)],[.v (.string ⟨#[109,97,114,103,105,110,32,48]⟩)],[.v (.string ⟨#[104,101,108,108,111]⟩)]]))]
def er106:AV:=.t [.x (.d (.s 1 [[.v (.string ⟨#[111,107]⟩)],[.v (.string ⟨#[111,107]⟩)],[.v (.string ⟨#[101,114,114,111,114,32,53]⟩)],[.v (.string ⟨#[97,116,32,51,32,102,32,53,50,52,50,56,56,48]⟩)],[.v (.string ⟨#[53,56,53,32,53,50,52,50,56,56,48]⟩)],[.v (.string ⟨#[54,32,54]⟩)],[.v (.string ⟨#[49,53]⟩)],[.v (.string ⟨#[111,107]⟩)],[.v (.string ⟨#[97,116,32,51,56,32,114,32,45]⟩)],[.v (.string ⟨#[49,48,48,48,32,49,48,48,48,32,50,51,52,32,55,48,49]⟩)],[.v (.string ⟨#[101,114,114,111,114,32,54]⟩)]])),.x (I 0)]
theorem ek106:FnC Tryz.prog 11 ea106 er106:=evF0 (M:=[ef1,ef2,ef3,ef4,ef5,ef6,ef13,ef15,ef16,ef17,ef18,ef19,ef20,ef21,ef22,ef27,ef28,ef29,ef30,ef31,ef32,ef33,ef34,ef35,ef36,ef37,ef38,ef39,ef40,ef41,ef42,ef43,ef44,ef45,ef46,ef59,ef60,ef61,ef62,ef63,ef64,ef65,ef66,ef67,ef83,ef84,ef85,ef86,ef87,ef88,ef89,ef90,ef91,ef92,ef93,ef94,ef95,ef96,ef97,ef98,ef0,ef99,ef100,ef101,ef102,ef103,ef104,ef105]) (by kernel_rfl) (by kernel_rfl)
def ef106:Fact Tryz.prog:=⟨11,ea106,er106,fun σ=>ek106.call (by kernel_rfl) (by kernel_rfl)⟩
end Go.Proofs.YtidkoikjdghlmaaGreatDoor
namespace Go.Proofs.YtidkoikjdghlmaaGreatDoor
open Go Go.QL FoT
set_option maxRecDepth 1000000
def ea107:List AV:=[.a [I 10,I 2,I 1,I 30,I 5,.d (.s 1 [[.v (.string ⟨#[97,110,110]⟩)],[.v (.string ⟨#[98,111]⟩)]]),.d (.s 4 [[.v (.int .i64 (1000)),.v (.int .i64 (1)),.v (.int .i64 (3)),.s 2 [[.v (.int .i64 (1000)),.v (.int .i64 (300))],[.v (.int .i64 (900)),.v (.int .i64 (500))],[.v (.int .i64 (800)),.v (.int .i64 (700))]]]])],.x (.d (.s 2 [[.v (.string ⟨#[106,111,98,32,102,32,97,110,110,32,56,32,97,42,40,98,45,48,46,50,53,41,43,98,32,52,49,57,52,51,48,52,32,52,49,57,52,51,48,52]⟩),.v (.string ⟨#[111,107]⟩)],[.v (.string ⟨#[99,97,108,108,32,114,32,98,111,32,50,48,32,114,111,111,116,32,50,48,57,55,49,53,50]⟩),.v (.string ⟨#[111,107]⟩)],[.v (.string ⟨#[106,111,98,32,102,32,97,110,110,32,56,32,97,32,53]⟩),.v (.string ⟨#[101,114,114,111,114,32,53]⟩)],[.v (.string ⟨#[114,117,110,32,49]⟩),.v (.string ⟨#[97,116,32,51,32,102,32,53,50,52,50,56,56,48]⟩)],[.v (.string ⟨#[100,117,109,112,32,102,32,52]⟩),.v (.string ⟨#[53,56,53,32,53,50,52,50,56,56,48]⟩)],[.v (.string ⟨#[116,119,105,110,32,102,32,54,32,49,52,32,56]⟩),.v (.string ⟨#[54,32,54]⟩)],[.v (.string ⟨#[98,105,108,108,32,97,110,110]⟩),.v (.string ⟨#[49,53]⟩)],[.v (.string ⟨#[102,97,117,108,116,32,49,48]⟩),.v (.string ⟨#[111,107]⟩)],[.v (.string ⟨#[114,117,110,32,51,48]⟩),.v (.string ⟨#[97,116,32,51,56,32,114,32,45]⟩)],[.v (.string ⟨#[109,97,114,103,105,110,32,48]⟩),.v (.string ⟨#[49,48,48,48,32,49,48,48,48,32,50,51,52,32,55,48,49]⟩)],[.v (.string ⟨#[104,101,108,108,111]⟩),.v (.string ⟨#[101,114,114,111,114,32,54]⟩)]]))]
def er107:AV:=.t [.x (I (-1)),.x (I 0)]
theorem ek107:FnC Tryz.prog 33 ea107 er107:=evF0 (M:=[ef1,ef2,ef3,ef4,ef5,ef6,ef13,ef15,ef16,ef17,ef18,ef19,ef20,ef21,ef22,ef27,ef28,ef29,ef30,ef31,ef32,ef33,ef34,ef35,ef36,ef37,ef38,ef39,ef40,ef41,ef42,ef43,ef44,ef45,ef46,ef59,ef60,ef61,ef62,ef63,ef64,ef65,ef66,ef67,ef83,ef84,ef85,ef86,ef87,ef88,ef89,ef90,ef91,ef92,ef93,ef94,ef95,ef96,ef97,ef98,ef0,ef99,ef100,ef101,ef102,ef103,ef104,ef105]) (by kernel_rfl) (by kernel_rfl)
def ef107:Fact Tryz.prog:=⟨33,ea107,er107,fun σ=>ek107.call (by kernel_rfl) (by kernel_rfl)⟩
end Go.Proofs.YtidkoikjdghlmaaGreatDoor
namespace Go.Proofs.YtidkoikjdghlmaaGreatDoor
open Go Go.QL FoT
set_option maxRecDepth 1000000
def ea108:List AV:=[.a [I 10,I 2,I 1,I 30,I 5,.d (.s 1 [[.v (.string ⟨#[97,110,110]⟩)],[.v (.string ⟨#[98,111]⟩)]]),.d (.s 4 [[.v (.int .i64 (1000)),.v (.int .i64 (1)),.v (.int .i64 (3)),.s 2 [[.v (.int .i64 (1000)),.v (.int .i64 (300))],[.v (.int .i64 (900)),.v (.int .i64 (500))],[.v (.int .i64 (800)),.v (.int .i64 (700))]]]])],.x (.d (.s 1 [[.v (.string ⟨#[106,111,98,32,102,32,97,110,110,32,56,32,97,42,40,98,45,48,46,50,53,41,43,98,32,52,49,57,52,51,48,52,32,52,49,57,52,51,48,52]⟩)],[.v (.string ⟨#[99,97,108,108,32,114,32,98,111,32,50,48,32,114,111,111,116,32,50,48,57,55,49,53,50]⟩)],[.v (.string ⟨#[106,111,98,32,102,32,97,110,110,32,56,32,97,32,53]⟩)],[.v (.string ⟨#[114,117,110,32,49]⟩)],[.v (.string ⟨#[100,117,109,112,32,102,32,52]⟩)],[.v (.string ⟨#[116,119,105,110,32,102,32,54,32,49,52,32,56]⟩)],[.v (.string ⟨#[98,105,108,108,32,97,110,110]⟩)],[.v (.string ⟨#[102,97,117,108,116,32,49,48]⟩)],[.v (.string ⟨#[114,117,110,32,51,48]⟩)],[.v (.string ⟨#[109,97,114,103,105,110,32,48]⟩)],[.v (.string ⟨#[104,101,108,108,111]⟩)]]))]
def er108:AV:=.t [.a [I 38,.d (.s 13 [[.v (.string ⟨#[102]⟩),.v (.int .i64 (0)),.s 1 [i 4194304,i 4194304],.v (.int .i64 (5242880)),.v (.string ⟨#[102]⟩),.v (.int .i64 (0)),.v (.int .i64 (8)),.v (.int .i64 (1)),.v (.int .i64 (1)),.v (.int .i64 (3)),.v (.int .i64 (15)),.v (.int .i64 (1)),.v (.int .i64 (3))],[.v (.string ⟨#[114]⟩),.v (.int .i64 (1)),.s 1 [i 2097152],.v (.int .i64 (4194304)),.v (.string ⟨#[114]⟩),.v (.int .i64 (0)),.v (.int .i64 (20)),.v (.int .i64 (27)),.v (.int .i64 (20)),.v (.int .i64 (38)),.v (.int .i64 (125)),.v (.int .i64 (2)),.v (.int .i64 (38))]]),.d (.s 1 [i 15,i 125]),I 28,I 0,I 10,I 0,.d (.s 2 [[.v (.int .i64 (234)),.v (.int .i64 (701))]])],.x (I 0)]
theorem ek108:FnC Tryz.prog 19 ea108 er108:=evF0 (M:=[ef1,ef2,ef3,ef4,ef5,ef6,ef13,ef15,ef16,ef17,ef18,ef19,ef20,ef21,ef22,ef27,ef28,ef29,ef30,ef31,ef32,ef33,ef34,ef35,ef36,ef37,ef38,ef39,ef40,ef41,ef42,ef43,ef44,ef45,ef46,ef59,ef60,ef61,ef62,ef63,ef64,ef65,ef66,ef67,ef83,ef84,ef85,ef86,ef87,ef88,ef89,ef90,ef91,ef92,ef93,ef94,ef95,ef96,ef97,ef98,ef0,ef99,ef100,ef101,ef102,ef103,ef104,ef105]) (by kernel_rfl) (by kernel_rfl)
def ef108:Fact Tryz.prog:=⟨19,ea108,er108,fun σ=>ek108.call (by kernel_rfl) (by kernel_rfl)⟩
def ea109:List AV:=[.x (.d (.s 2 [[.v (.string ⟨#[106,111,98,32,102,32,97,110,110,32,56,32,97,42,40,98,45,48,46,50,53,41,43,98,32,52,49,57,52,51,48,52,32,52,49,57,52,51,48,52]⟩),.v (.string ⟨#[111,107]⟩)]]))]
def er109:AV:=.t [.x (.d (.v (.string ⟨#[106,111,98,32,102,32,97,110,110,32,56,32,97,42,40,98,45,48,46,50,53,41,43,98,32,52,49,57,52,51,48,52,32,52,49,57,52,51,48,52,9,111,107,10]⟩))),.x (I 0)]
def ea110:List AV:=[]
def er110:AV:=.x (.d (.v (.bool true)))
theorem ek110 (h109:FnC Tryz.prog 21 ea109 er109):FnC Tryz.prog 9 ea110 er110:=evF0 (M:=[ef107,ef108,⟨21,ea109,er109,fun σ=>h109.call (by kernel_rfl) (by kernel_rfl)⟩]) (by kernel_rfl) (by kernel_rfl)
def ef110 (h109:FnC Tryz.prog 21 ea109 er109):Fact Tryz.prog:=⟨9,ea110,er110,fun σ=>(ek110 h109).call (by kernel_rfl) (by kernel_rfl)⟩
def ea111:List AV:=[]
def er111:AV:=.x (.d (.v (.bool true)))
theorem ek111 (h109:FnC Tryz.prog 21 ea109 er109):FnC Tryz.prog 4 ea111 er111:=evF0 (M:=[ef106,ef110 h109]) (by kernel_rfl) (by kernel_rfl)
def ef111 (h109:FnC Tryz.prog 21 ea109 er109):Fact Tryz.prog:=⟨4,ea111,er111,fun σ=>(ek111 h109).call (by kernel_rfl) (by kernel_rfl)⟩
end Go.Proofs.YtidkoikjdghlmaaGreatDoor
namespace Go.Proofs.YtidkoikjdghlmaaGreatDoor
open Go Go.QL FoT
set_option maxRecDepth 1000000
def r109:Row:=(⟨#[106,111,98,32,102,32,97,110,110,32,56,32,97,42,40,98,45,48,46,50,53,41,43,98,32,52,49,57,52,51,48,52,32,52,49,57,52,51,48,52]⟩,⟨#[111,107]⟩)
theorem p109a:FnC Tryz.prog 40 [sv r109.1] (bv true):=evF0 (M:=[]) (by kernel_rfl) (by kernel_rfl)
theorem p109b:FnC Tryz.prog 40 [sv r109.2] (bv true):=evF0 (M:=[]) (by kernel_rfl) (by kernel_rfl)
theorem e109:AV.t [sv ⟨(textL [r109]).toArray⟩,iv .i64 0]=er109:=by kernel_rfl
theorem h109:FnC Tryz.prog 21 ea109 er109:=e109 ▸ write_fn [r109] (by decide) (of_decide_eq_true (by kernel_rfl)) (fun r hr=>by
 have e:r=r109:=by simpa using hr
 subst e;exact⟨p109a,p109b⟩)
theorem awake13_fn:FnC Tryz.prog 9 [] (bv true):=ek110 h109
theorem zn0:FnC Tryz.prog 4 [] (bv true):=ek111 h109
end Go.Proofs.YtidkoikjdghlmaaGreatDoor
end
