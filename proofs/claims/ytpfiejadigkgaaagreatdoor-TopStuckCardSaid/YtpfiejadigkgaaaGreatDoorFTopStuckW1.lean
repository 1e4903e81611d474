/- What the functions that this law reaches return: part 1. No condition. -/
import Derived.Test.YtpfiejadigkgaaaGreatDoorFTopStuckW0
set_option linter.all false
noncomputable section
namespace Go.Proofs.YtpfiejadigkgaaaGreatDoor
open Go Go.QL FoT
set_option maxRecDepth 1000000
def ca0:List AV:=[.x (.d (.s 1 [i 12583560,i 0,i 0,i 0,i 0,i 0,i 0,i 0,i 10569226,i 0,i 4278016,i 0,i 14909453]))]
def cr0:AV:=.x (I (-1))
theorem ck0:FnC Tryz.prog 109 ca0 cr0:=evF0 (M:=[]) (by kernel_rfl) (by kernel_rfl)
def cf0:Fact Tryz.prog:=⟨109,ca0,cr0,fun σ=>ck0.call (by kernel_rfl) (by kernel_rfl)⟩
def ca1:List AV:=[.x (.d (.s 1 [i 12583560,i 0,i 0,i 0,i 0,i 0,i 0,i 0,i 10569226,i 0,i 4278016,i 0,i 14909453])),.x (.d (.s 1 [i 3,i 4,i 16777215])),.x (I 0)]
def cr1:AV:=.t [.a [.d (.s 1 [i 12583560,i 0,i 0,i 0,i 0,i 0,i 0,i 0,i 10569226,i 0,i 4278016,i 0,i 14909453,i 0,i 0,i 0,i 0,i 0,i 0,i 0,i 0,i 0,i 0,i 0,i 0,i 0,i 0,i 0,i 0,i 0,i 0,i 0,i 0,i 0,i 0,i 0,i 0,i 0,i 0,i 0,i 0,i 0,i 0,i 0,i 0,i 0,i 0,i 0,i 0,i 0,i 0,i 0,i 0,i 0,i 0,i 0,i 0,i 0,i 0,i 0,i 0,i 0,i 0,i 0,i 0,i 0,i 0,i 0,i 0,i 0,i 0,i 0,i 0,i 0,i 0,i 0,i 0,i 0,i 0,i 0,i 0,i 0,i 0,i 0,i 0,i 0,i 0,i 0,i 0,i 0,i 0,i 0,i 0,i 0,i 0,i 0,i 0,i 0,i 0,i 0,i 0,i 0,i 0,i 0,i 0,i 0,i 0,i 0,i 0,i 0,i 0,i 0,i 0,i 0,i 0,i 0,i 0,i 0,i 0,i 0,i 0,i 0,i 0,i 0,i 0,i 0,i 0,i 0]),.d (.s 1 [i 3,i 4,i 16777215]),I 0,.d (.v (.slice none 0 0)),I 0,I 0,I 0,I 0],.x (I 0)]
theorem ck1:FnC Tryz.prog 73 ca1 cr1:=evF0 (M:=[cf0]) (by kernel_rfl) (by kernel_rfl)
def cf1:Fact Tryz.prog:=⟨73,ca1,cr1,fun σ=>ck1.call (by kernel_rfl) (by kernel_rfl)⟩
def ca2:List AV:=[.a [.d (.s 1 [i 12583560,i 0,i 0,i 0,i 0,i 0,i 0,i 0,i 10569226,i 0,i 4278016,i 0,i 14909453,i 0,i 0,i 0,i 0,i 0,i 0,i 0,i 0,i 0,i 0,i 0,i 0,i 0,i 0,i 0,i 0,i 0,i 0,i 0,i 0,i 0,i 0,i 0,i 0,i 0,i 0,i 0,i 0,i 0,i 0,i 0,i 0,i 0,i 0,i 0,i 0,i 0,i 0,i 0,i 0,i 0,i 0,i 0,i 0,i 0,i 0,i 0,i 0,i 0,i 0,i 0,i 0,i 0,i 0,i 0,i 0,i 0,i 0,i 0,i 0,i 0,i 0,i 0,i 0,i 0,i 0,i 0,i 0,i 0,i 0,i 0,i 0,i 0,i 0,i 0,i 0,i 0,i 0,i 0,i 0,i 0,i 0,i 0,i 0,i 0,i 0,i 0,i 0,i 0,i 0,i 0,i 0,i 0,i 0,i 0,i 0,i 0,i 0,i 0,i 0,i 0,i 0,i 0,i 0,i 0,i 0,i 0,i 0,i 0,i 0,i 0,i 0,i 0,i 0,i 0]),.d (.s 1 [i 3,i 4,i 16777215]),I 0,.d (.v (.slice none 0 0)),I 0,I 0,I 0,I 0]]
def cr2:AV:=.t [.x (I 0),.x (I 0),.x (I 0)]
theorem ck2:FnC Tryz.prog 62 ca2 cr2:=chk_fact (by kernel_rfl)
def cf2:Fact Tryz.prog:=⟨62,ca2,cr2,fun σ=>ck2.call (by kernel_rfl) (by kernel_rfl)⟩
def ca3:List AV:=[.a [.d (.s 1 [i 12583560,i 0,i 0,i 0,i 0,i 0,i 0,i 0,i 10569226,i 0,i 4278016,i 0,i 14909453,i 0,i 0,i 0,i 0,i 0,i 0,i 0,i 0,i 0,i 0,i 0,i 0,i 0,i 0,i 0,i 0,i 0,i 0,i 0,i 0,i 0,i 0,i 0,i 0,i 0,i 0,i 0,i 0,i 0,i 0,i 0,i 0,i 0,i 0,i 0,i 0,i 0,i 0,i 0,i 0,i 0,i 0,i 0,i 0,i 0,i 0,i 0,i 0,i 0,i 0,i 0,i 0,i 0,i 0,i 0,i 0,i 0,i 0,i 0,i 0,i 0,i 0,i 0,i 0,i 0,i 0,i 0,i 0,i 0,i 0,i 0,i 0,i 0,i 0,i 0,i 0,i 0,i 0,i 0,i 0,i 0,i 0,i 0,i 0,i 0,i 0,i 0,i 0,i 0,i 0,i 0,i 0,i 0,i 0,i 0,i 0,i 0,i 0,i 0,i 0,i 0,i 0,i 0,i 0,i 0,i 0,i 0,i 0,i 0,i 0,i 0,i 0,i 0,i 0,i 0]),.d (.s 1 [i 3,i 4,i 16777215]),I 0,.d (.v (.slice none 0 0)),I 0,I 0,I 0,I 0],.x (I 1)]
def cr3:AV:=.t [.a [.d (.s 1 [i 12583560,i 0,i 0,i 0,i 0,i 3,i 0,i 0,i 10569226,i 0,i 4278016,i 0,i 14909453,i 0,i 0,i 0,i 0,i 0,i 0,i 0,i 0,i 0,i 0,i 0,i 0,i 0,i 0,i 0,i 0,i 0,i 0,i 0,i 0,i 0,i 0,i 0,i 0,i 0,i 0,i 0,i 0,i 0,i 0,i 0,i 0,i 0,i 0,i 0,i 0,i 0,i 0,i 0,i 0,i 0,i 0,i 0,i 0,i 0,i 0,i 0,i 0,i 0,i 0,i 0,i 0,i 0,i 0,i 0,i 0,i 0,i 0,i 0,i 0,i 0,i 0,i 0,i 0,i 0,i 0,i 0,i 0,i 0,i 0,i 0,i 0,i 0,i 0,i 0,i 0,i 0,i 0,i 0,i 0,i 0,i 0,i 0,i 0,i 0,i 0,i 0,i 0,i 0,i 0,i 0,i 0,i 0,i 0,i 0,i 0,i 0,i 0,i 0,i 0,i 0,i 0,i 0,i 0,i 0,i 0,i 0,i 0,i 0,i 0,i 0,i 0,i 0,i 0,i 0]),.d (.s 1 [i 3,i 4,i 16777215]),I 1,.d (.s 1 []),I 8,I 8,I 1,I 0],.x (I 0)]
theorem ck3:FnC Tryz.prog 9 ca3 cr3:=run_fact (by kernel_rfl)
def cf3:Fact Tryz.prog:=⟨9,ca3,cr3,fun σ=>ck3.call (by kernel_rfl) (by kernel_rfl)⟩
def ca4:List AV:=[.a [.d (.s 1 [i 12583560,i 0,i 0,i 0,i 0,i 3,i 0,i 0,i 10569226,i 0,i 4278016,i 0,i 14909453,i 0,i 0,i 0,i 0,i 0,i 0,i 0,i 0,i 0,i 0,i 0,i 0,i 0,i 0,i 0,i 0,i 0,i 0,i 0,i 0,i 0,i 0,i 0,i 0,i 0,i 0,i 0,i 0,i 0,i 0,i 0,i 0,i 0,i 0,i 0,i 0,i 0,i 0,i 0,i 0,i 0,i 0,i 0,i 0,i 0,i 0,i 0,i 0,i 0,i 0,i 0,i 0,i 0,i 0,i 0,i 0,i 0,i 0,i 0,i 0,i 0,i 0,i 0,i 0,i 0,i 0,i 0,i 0,i 0,i 0,i 0,i 0,i 0,i 0,i 0,i 0,i 0,i 0,i 0,i 0,i 0,i 0,i 0,i 0,i 0,i 0,i 0,i 0,i 0,i 0,i 0,i 0,i 0,i 0,i 0,i 0,i 0,i 0,i 0,i 0,i 0,i 0,i 0,i 0,i 0,i 0,i 0,i 0,i 0,i 0,i 0,i 0,i 0,i 0,i 0]),.d (.s 1 [i 3,i 4,i 16777215]),I 1,.d (.s 1 []),I 8,I 8,I 1,I 0],.x (I 1)]
def cr4:AV:=.t [.a [.d (.s 1 [i 12583560,i 0,i 0,i 0,i 0,i 3,i 0,i 0,i 10569226,i 0,i 4278016,i 0,i 14909453,i 0,i 0,i 0,i 0,i 0,i 0,i 0,i 0,i 0,i 0,i 0,i 0,i 0,i 0,i 0,i 0,i 0,i 0,i 0,i 0,i 0,i 0,i 0,i 0,i 0,i 0,i 0,i 0,i 0,i 0,i 0,i 0,i 0,i 0,i 0,i 0,i 0,i 0,i 0,i 0,i 0,i 0,i 0,i 0,i 0,i 0,i 0,i 0,i 0,i 0,i 0,i 0,i 0,i 0,i 0,i 0,i 0,i 0,i 0,i 0,i 0,i 0,i 0,i 0,i 0,i 0,i 0,i 0,i 0,i 0,i 0,i 0,i 0,i 0,i 0,i 0,i 0,i 0,i 0,i 0,i 0,i 0,i 0,i 0,i 0,i 0,i 0,i 0,i 0,i 0,i 0,i 0,i 0,i 0,i 0,i 0,i 0,i 0,i 0,i 0,i 0,i 0,i 0,i 0,i 0,i 0,i 0,i 0,i 0,i 0,i 0,i 0,i 0,i 0,i 0]),.d (.s 1 [i 3,i 4,i 16777215]),I 1,.d (.s 1 []),I 26,I 10,I 2,I 0],.x (I 0)]
theorem ck4:FnC Tryz.prog 9 ca4 cr4:=run_fact (by kernel_rfl)
def cf4:Fact Tryz.prog:=⟨9,ca4,cr4,fun σ=>ck4.call (by kernel_rfl) (by kernel_rfl)⟩
def ca5:List AV:=[.a [.d (.s 1 [i 12583560,i 0,i 0,i 0,i 0,i 3,i 0,i 0,i 10569226,i 0,i 4278016,i 0,i 14909453,i 0,i 0,i 0,i 0,i 0,i 0,i 0,i 0,i 0,i 0,i 0,i 0,i 0,i 0,i 0,i 0,i 0,i 0,i 0,i 0,i 0,i 0,i 0,i 0,i 0,i 0,i 0,i 0,i 0,i 0,i 0,i 0,i 0,i 0,i 0,i 0,i 0,i 0,i 0,i 0,i 0,i 0,i 0,i 0,i 0,i 0,i 0,i 0,i 0,i 0,i 0,i 0,i 0,i 0,i 0,i 0,i 0,i 0,i 0,i 0,i 0,i 0,i 0,i 0,i 0,i 0,i 0,i 0,i 0,i 0,i 0,i 0,i 0,i 0,i 0,i 0,i 0,i 0,i 0,i 0,i 0,i 0,i 0,i 0,i 0,i 0,i 0,i 0,i 0,i 0,i 0,i 0,i 0,i 0,i 0,i 0,i 0,i 0,i 0,i 0,i 0,i 0,i 0,i 0,i 0,i 0,i 0,i 0,i 0,i 0,i 0,i 0,i 0,i 0,i 0]),.d (.s 1 [i 3,i 4,i 16777215]),I 1,.d (.s 1 []),I 26,I 10,I 2,I 0],.x (I 1)]
def cr5:AV:=.t [.a [.d (.s 1 [i 12583560,i 0,i 0,i 0,i 0,i 3,i 0,i 0,i 10569226,i 0,i 4278016,i 0,i 14909453,i 0,i 3,i 0,i 0,i 0,i 0,i 0,i 0,i 0,i 0,i 0,i 0,i 0,i 0,i 0,i 0,i 0,i 0,i 0,i 0,i 0,i 0,i 0,i 0,i 0,i 0,i 0,i 0,i 0,i 0,i 0,i 0,i 0,i 0,i 0,i 0,i 0,i 0,i 0,i 0,i 0,i 0,i 0,i 0,i 0,i 0,i 0,i 0,i 0,i 0,i 0,i 0,i 0,i 0,i 0,i 0,i 0,i 0,i 0,i 0,i 0,i 0,i 0,i 0,i 0,i 0,i 0,i 0,i 0,i 0,i 0,i 0,i 0,i 0,i 0,i 0,i 0,i 0,i 0,i 0,i 0,i 0,i 0,i 0,i 0,i 0,i 0,i 0,i 0,i 0,i 0,i 0,i 0,i 0,i 0,i 0,i 0,i 0,i 0,i 0,i 0,i 0,i 0,i 0,i 0,i 0,i 0,i 0,i 0,i 0,i 0,i 0,i 0,i 0,i 0]),.d (.s 1 [i 3,i 4,i 16777215]),I 1,.d (.s 1 []),I 48,I 0,I 3,I 0],.x (I 0)]
theorem ck5:FnC Tryz.prog 9 ca5 cr5:=run_fact (by kernel_rfl)
def cf5:Fact Tryz.prog:=⟨9,ca5,cr5,fun σ=>ck5.call (by kernel_rfl) (by kernel_rfl)⟩
def ca6:List AV:=[.a [.d (.s 1 [i 12583560,i 0,i 0,i 0,i 0,i 3,i 0,i 0,i 10569226,i 0,i 4278016,i 0,i 14909453,i 0,i 3,i 0,i 0,i 0,i 0,i 0,i 0,i 0,i 0,i 0,i 0,i 0,i 0,i 0,i 0,i 0,i 0,i 0,i 0,i 0,i 0,i 0,i 0,i 0,i 0,i 0,i 0,i 0,i 0,i 0,i 0,i 0,i 0,i 0,i 0,i 0,i 0,i 0,i 0,i 0,i 0,i 0,i 0,i 0,i 0,i 0,i 0,i 0,i 0,i 0,i 0,i 0,i 0,i 0,i 0,i 0,i 0,i 0,i 0,i 0,i 0,i 0,i 0,i 0,i 0,i 0,i 0,i 0,i 0,i 0,i 0,i 0,i 0,i 0,i 0,i 0,i 0,i 0,i 0,i 0,i 0,i 0,i 0,i 0,i 0,i 0,i 0,i 0,i 0,i 0,i 0,i 0,i 0,i 0,i 0,i 0,i 0,i 0,i 0,i 0,i 0,i 0,i 0,i 0,i 0,i 0,i 0,i 0,i 0,i 0,i 0,i 0,i 0,i 0]),.d (.s 1 [i 3,i 4,i 16777215]),I 1,.d (.s 1 []),I 48,I 0,I 3,I 0],.x (I 1)]
def cr6:AV:=.t [.a [.d (.s 1 [i 12583560,i 0,i 0,i 0,i 0,i 4,i 0,i 0,i 10569226,i 0,i 4278016,i 0,i 14909453,i 0,i 3,i 0,i 0,i 0,i 0,i 0,i 0,i 0,i 0,i 0,i 0,i 0,i 0,i 0,i 0,i 0,i 0,i 0,i 0,i 0,i 0,i 0,i 0,i 0,i 0,i 0,i 0,i 0,i 0,i 0,i 0,i 0,i 0,i 0,i 0,i 0,i 0,i 0,i 0,i 0,i 0,i 0,i 0,i 0,i 0,i 0,i 0,i 0,i 0,i 0,i 0,i 0,i 0,i 0,i 0,i 0,i 0,i 0,i 0,i 0,i 0,i 0,i 0,i 0,i 0,i 0,i 0,i 0,i 0,i 0,i 0,i 0,i 0,i 0,i 0,i 0,i 0,i 0,i 0,i 0,i 0,i 0,i 0,i 0,i 0,i 0,i 0,i 0,i 0,i 0,i 0,i 0,i 0,i 0,i 0,i 0,i 0,i 0,i 0,i 0,i 0,i 0,i 0,i 0,i 0,i 0,i 0,i 0,i 0,i 0,i 0,i 0,i 0,i 0]),.d (.s 1 [i 3,i 4,i 16777215]),I 2,.d (.s 1 []),I 56,I 8,I 4,I 0],.x (I 0)]
theorem ck6:FnC Tryz.prog 9 ca6 cr6:=run_fact (by kernel_rfl)
def cf6:Fact Tryz.prog:=⟨9,ca6,cr6,fun σ=>ck6.call (by kernel_rfl) (by kernel_rfl)⟩
def ca7:List AV:=[.a [.d (.s 1 [i 12583560,i 0,i 0,i 0,i 0,i 4,i 0,i 0,i 10569226,i 0,i 4278016,i 0,i 14909453,i 0,i 3,i 0,i 0,i 0,i 0,i 0,i 0,i 0,i 0,i 0,i 0,i 0,i 0,i 0,i 0,i 0,i 0,i 0,i 0,i 0,i 0,i 0,i 0,i 0,i 0,i 0,i 0,i 0,i 0,i 0,i 0,i 0,i 0,i 0,i 0,i 0,i 0,i 0,i 0,i 0,i 0,i 0,i 0,i 0,i 0,i 0,i 0,i 0,i 0,i 0,i 0,i 0,i 0,i 0,i 0,i 0,i 0,i 0,i 0,i 0,i 0,i 0,i 0,i 0,i 0,i 0,i 0,i 0,i 0,i 0,i 0,i 0,i 0,i 0,i 0,i 0,i 0,i 0,i 0,i 0,i 0,i 0,i 0,i 0,i 0,i 0,i 0,i 0,i 0,i 0,i 0,i 0,i 0,i 0,i 0,i 0,i 0,i 0,i 0,i 0,i 0,i 0,i 0,i 0,i 0,i 0,i 0,i 0,i 0,i 0,i 0,i 0,i 0,i 0]),.d (.s 1 [i 3,i 4,i 16777215]),I 2,.d (.s 1 []),I 56,I 8,I 4,I 0],.x (I 1)]
def cr7:AV:=.t [.a [.d (.s 1 [i 12583560,i 0,i 0,i 0,i 0,i 4,i 0,i 0,i 10569226,i 0,i 4278016,i 0,i 14909453,i 0,i 3,i 0,i 0,i 0,i 0,i 0,i 0,i 0,i 0,i 0,i 0,i 0,i 0,i 0,i 0,i 0,i 0,i 0,i 0,i 0,i 0,i 0,i 0,i 0,i 0,i 0,i 0,i 0,i 0,i 0,i 0,i 0,i 0,i 0,i 0,i 0,i 0,i 0,i 0,i 0,i 0,i 0,i 0,i 0,i 0,i 0,i 0,i 0,i 0,i 0,i 0,i 0,i 0,i 0,i 0,i 0,i 0,i 0,i 0,i 0,i 0,i 0,i 0,i 0,i 0,i 0,i 0,i 0,i 0,i 0,i 0,i 0,i 0,i 0,i 0,i 0,i 0,i 0,i 0,i 0,i 0,i 0,i 0,i 0,i 0,i 0,i 0,i 0,i 0,i 0,i 0,i 0,i 0,i 0,i 0,i 0,i 0,i 0,i 0,i 0,i 0,i 0,i 0,i 0,i 0,i 0,i 0,i 0,i 0,i 0,i 0,i 0,i 0,i 0]),.d (.s 1 [i 3,i 4,i 16777215]),I 2,.d (.s 1 []),I 74,I 10,I 5,I 0],.x (I 0)]
theorem ck7:FnC Tryz.prog 9 ca7 cr7:=run_fact (by kernel_rfl)
def cf7:Fact Tryz.prog:=⟨9,ca7,cr7,fun σ=>ck7.call (by kernel_rfl) (by kernel_rfl)⟩
def ca8:List AV:=[.a [.d (.s 1 [i 12583560,i 0,i 0,i 0,i 0,i 4,i 0,i 0,i 10569226,i 0,i 4278016,i 0,i 14909453,i 0,i 2,i 0,i 0,i 0,i 0,i 0,i 0,i 0,i 0,i 0,i 0,i 0,i 0,i 0,i 0,i 0,i 0,i 0,i 0,i 0,i 0,i 0,i 0,i 0,i 0,i 0,i 0,i 0,i 0,i 0,i 0,i 0,i 0,i 0,i 0,i 0,i 0,i 0,i 0,i 0,i 0,i 0,i 0,i 0,i 0,i 0,i 0,i 0,i 0,i 0,i 0,i 0,i 0,i 0,i 0,i 0,i 0,i 0,i 0,i 0,i 0,i 0,i 0,i 0,i 0,i 0,i 0,i 0,i 0,i 0,i 0,i 0,i 0,i 0,i 0,i 0,i 0,i 0,i 0,i 0,i 0,i 0,i 0,i 0,i 0,i 0,i 0,i 0,i 0,i 0,i 0,i 0,i 0,i 0,i 0,i 0,i 0,i 0,i 0,i 0,i 0,i 0,i 0,i 0,i 0,i 0,i 0,i 0,i 0,i 0,i 0,i 0,i 0,i 0]),.d (.s 1 [i 3,i 4,i 16777215]),I 2,.d (.s 1 []),I 74,I 10,I 5,I 0],.x (I 1)]
def cr8:AV:=.t [.a [.d (.s 1 [i 12583560,i 0,i 0,i 0,i 0,i 4,i 0,i 0,i 10569226,i 0,i 4278016,i 0,i 14909453,i 0,i 6,i 0,i 0,i 0,i 0,i 0,i 0,i 0,i 0,i 0,i 0,i 0,i 0,i 0,i 0,i 0,i 0,i 0,i 0,i 0,i 0,i 0,i 0,i 0,i 0,i 0,i 0,i 0,i 0,i 0,i 0,i 0,i 0,i 0,i 0,i 0,i 0,i 0,i 0,i 0,i 0,i 0,i 0,i 0,i 0,i 0,i 0,i 0,i 0,i 0,i 0,i 0,i 0,i 0,i 0,i 0,i 0,i 0,i 0,i 0,i 0,i 0,i 0,i 0,i 0,i 0,i 0,i 0,i 0,i 0,i 0,i 0,i 0,i 0,i 0,i 0,i 0,i 0,i 0,i 0,i 0,i 0,i 0,i 0,i 0,i 0,i 0,i 0,i 0,i 0,i 0,i 0,i 0,i 0,i 0,i 0,i 0,i 0,i 0,i 0,i 0,i 0,i 0,i 0,i 0,i 0,i 0,i 0,i 0,i 0,i 0,i 0,i 0,i 0]),.d (.s 1 [i 3,i 4,i 16777215]),I 2,.d (.s 1 []),I 96,I 0,I 6,I 0],.x (I 0)]
theorem ck8:FnC Tryz.prog 9 ca8 cr8:=run_fact (by kernel_rfl)
def cf8:Fact Tryz.prog:=⟨9,ca8,cr8,fun σ=>ck8.call (by kernel_rfl) (by kernel_rfl)⟩
def ca9:List AV:=[.a [.d (.s 1 [i 12583560,i 0,i 0,i 0,i 0,i 4,i 0,i 0,i 10569226,i 0,i 4278016,i 0,i 14909453,i 0,i 6,i 0,i 0,i 0,i 0,i 0,i 0,i 0,i 0,i 0,i 0,i 0,i 0,i 0,i 0,i 0,i 0,i 0,i 0,i 0,i 0,i 0,i 0,i 0,i 0,i 0,i 0,i 0,i 0,i 0,i 0,i 0,i 0,i 0,i 0,i 0,i 0,i 0,i 0,i 0,i 0,i 0,i 0,i 0,i 0,i 0,i 0,i 0,i 0,i 0,i 0,i 0,i 0,i 0,i 0,i 0,i 0,i 0,i 0,i 0,i 0,i 0,i 0,i 0,i 0,i 0,i 0,i 0,i 0,i 0,i 0,i 0,i 0,i 0,i 0,i 0,i 0,i 0,i 0,i 0,i 0,i 0,i 0,i 0,i 0,i 0,i 0,i 0,i 0,i 0,i 0,i 0,i 0,i 0,i 0,i 0,i 0,i 0,i 0,i 0,i 0,i 0,i 0,i 0,i 0,i 0,i 0,i 0,i 0,i 0,i 0,i 0,i 0,i 0]),.d (.s 1 [i 3,i 4,i 16777215]),I 2,.d (.s 1 []),I 96,I 0,I 6,I 0],.x (I 1)]
def cr9:AV:=.t [.a [.d (.s 1 [i 12583560,i 0,i 0,i 0,i 0,i 16777215,i 0,i 0,i 10569226,i 0,i 4278016,i 0,i 14909453,i 0,i 6,i 0,i 0,i 0,i 0,i 0,i 0,i 0,i 0,i 0,i 0,i 0,i 0,i 0,i 0,i 0,i 0,i 0,i 0,i 0,i 0,i 0,i 0,i 0,i 0,i 0,i 0,i 0,i 0,i 0,i 0,i 0,i 0,i 0,i 0,i 0,i 0,i 0,i 0,i 0,i 0,i 0,i 0,i 0,i 0,i 0,i 0,i 0,i 0,i 0,i 0,i 0,i 0,i 0,i 0,i 0,i 0,i 0,i 0,i 0,i 0,i 0,i 0,i 0,i 0,i 0,i 0,i 0,i 0,i 0,i 0,i 0,i 0,i 0,i 0,i 0,i 0,i 0,i 0,i 0,i 0,i 0,i 0,i 0,i 0,i 0,i 0,i 0,i 0,i 0,i 0,i 0,i 0,i 0,i 0,i 0,i 0,i 0,i 0,i 0,i 0,i 0,i 0,i 0,i 0,i 0,i 0,i 0,i 0,i 0,i 0,i 0,i 0,i 0]),.d (.s 1 [i 3,i 4,i 16777215]),I 3,.d (.s 1 []),I 104,I 8,I 7,I 0],.x (I 0)]
theorem ck9:FnC Tryz.prog 9 ca9 cr9:=run_fact (by kernel_rfl)
def cf9:Fact Tryz.prog:=⟨9,ca9,cr9,fun σ=>ck9.call (by kernel_rfl) (by kernel_rfl)⟩
def ca10:List AV:=[.a [.d (.s 1 [i 12583560,i 0,i 0,i 0,i 0,i 16777215,i 0,i 0,i 10569226,i 0,i 4278016,i 0,i 14909453,i 0,i 6,i 0,i 0,i 0,i 0,i 0,i 0,i 0,i 0,i 0,i 0,i 0,i 0,i 0,i 0,i 0,i 0,i 0,i 0,i 0,i 0,i 0,i 0,i 0,i 0,i 0,i 0,i 0,i 0,i 0,i 0,i 0,i 0,i 0,i 0,i 0,i 0,i 0,i 0,i 0,i 0,i 0,i 0,i 0,i 0,i 0,i 0,i 0,i 0,i 0,i 0,i 0,i 0,i 0,i 0,i 0,i 0,i 0,i 0,i 0,i 0,i 0,i 0,i 0,i 0,i 0,i 0,i 0,i 0,i 0,i 0,i 0,i 0,i 0,i 0,i 0,i 0,i 0,i 0,i 0,i 0,i 0,i 0,i 0,i 0,i 0,i 0,i 0,i 0,i 0,i 0,i 0,i 0,i 0,i 0,i 0,i 0,i 0,i 0,i 0,i 0,i 0,i 0,i 0,i 0,i 0,i 0,i 0,i 0,i 0,i 0,i 0,i 0,i 0]),.d (.s 1 [i 3,i 4,i 16777215]),I 3,.d (.s 1 []),I 104,I 8,I 7,I 0],.x (I 1)]
def cr10:AV:=.t [.a [.d (.s 1 [i 12583560,i 0,i 0,i 0,i 0,i 16777215,i 0,i 0,i 10569226,i 0,i 4278016,i 0,i 14909453,i 0,i 6,i 0,i 0,i 0,i 0,i 0,i 0,i 0,i 0,i 0,i 0,i 0,i 0,i 0,i 0,i 0,i 0,i 0,i 0,i 0,i 0,i 0,i 0,i 0,i 0,i 0,i 0,i 0,i 0,i 0,i 0,i 0,i 0,i 0,i 0,i 0,i 0,i 0,i 0,i 0,i 0,i 0,i 0,i 0,i 0,i 0,i 0,i 0,i 0,i 0,i 0,i 0,i 0,i 0,i 0,i 0,i 0,i 0,i 0,i 0,i 0,i 0,i 0,i 0,i 0,i 0,i 0,i 0,i 0,i 0,i 0,i 0,i 0,i 0,i 0,i 0,i 0,i 0,i 0,i 0,i 0,i 0,i 0,i 0,i 0,i 0,i 0,i 0,i 0,i 0,i 0,i 0,i 0,i 0,i 0,i 0,i 0,i 0,i 0,i 0,i 0,i 0,i 0,i 0,i 0,i 0,i 0,i 0,i 0,i 0,i 0,i 0,i 0,i 0]),.d (.s 1 [i 3,i 4,i 16777215]),I 3,.d (.s 1 []),I 124,I 12,I 8,I 0],.x (I 0)]
theorem ck10:FnC Tryz.prog 9 ca10 cr10:=run_fact (by kernel_rfl)
def cf10:Fact Tryz.prog:=⟨9,ca10,cr10,fun σ=>ck10.call (by kernel_rfl) (by kernel_rfl)⟩
def ca11:List AV:=[.a [.d (.s 1 [i 12583560,i 0,i 0,i 0,i 0,i 16777215,i 0,i 0,i 10569226,i 0,i 4278016,i 0,i 14909453,i 0,i 6,i 0,i 0,i 0,i 0,i 0,i 0,i 0,i 0,i 0,i 0,i 0,i 0,i 0,i 0,i 0,i 0,i 0,i 0,i 0,i 0,i 0,i 0,i 0,i 0,i 0,i 0,i 0,i 0,i 0,i 0,i 0,i 0,i 0,i 0,i 0,i 0,i 0,i 0,i 0,i 0,i 0,i 0,i 0,i 0,i 0,i 0,i 0,i 0,i 0,i 0,i 0,i 0,i 0,i 0,i 0,i 0,i 0,i 0,i 0,i 0,i 0,i 0,i 0,i 0,i 0,i 0,i 0,i 0,i 0,i 0,i 0,i 0,i 0,i 0,i 0,i 0,i 0,i 0,i 0,i 0,i 0,i 0,i 0,i 0,i 0,i 0,i 0,i 0,i 0,i 0,i 0,i 0,i 0,i 0,i 0,i 0,i 0,i 0,i 0,i 0,i 0,i 0,i 0,i 0,i 0,i 0,i 0,i 0,i 0,i 0,i 0,i 0,i 0]),.d (.s 1 [i 3,i 4,i 16777215]),I 3,.d (.s 1 []),I 124,I 12,I 8,I 0],.x (I 1)]
def cr11:AV:=.t [.a [.d (.s 1 [i 12583560,i 0,i 0,i 0,i 0,i 16777215,i 0,i 0,i 10569226,i 0,i 4278016,i 0,i 14909453,i 0,i 6,i 0,i 0,i 0,i 0,i 0,i 0,i 0,i 0,i 0,i 0,i 0,i 0,i 0,i 0,i 0,i 0,i 0,i 0,i 0,i 0,i 0,i 0,i 0,i 0,i 0,i 0,i 0,i 0,i 0,i 0,i 0,i 0,i 0,i 0,i 0,i 0,i 0,i 0,i 0,i 0,i 0,i 0,i 0,i 0,i 0,i 0,i 0,i 0,i 0,i 0,i 0,i 0,i 0,i 0,i 0,i 0,i 0,i 0,i 0,i 0,i 0,i 0,i 0,i 0,i 0,i 0,i 0,i 0,i 0,i 0,i 0,i 0,i 0,i 0,i 0,i 0,i 0,i 0,i 0,i 0,i 0,i 0,i 0,i 0,i 0,i 0,i 0,i 0,i 0,i 0,i 0,i 0,i 0,i 0,i 0,i 0,i 0,i 0,i 0,i 0,i 0,i 0,i 0,i 0,i 0,i 0,i 0,i 0,i 0,i 0,i 0,i 0,i 0]),.d (.s 1 [i 3,i 4,i 16777215]),I 3,.d (.s 1 [i 6]),I 141,I 13,I 9,I 0],.x (I 0)]
theorem ck11:FnC Tryz.prog 9 ca11 cr11:=run_fact (by kernel_rfl)
def cf11:Fact Tryz.prog:=⟨9,ca11,cr11,fun σ=>ck11.call (by kernel_rfl) (by kernel_rfl)⟩
def ca12:List AV:=[.a [.d (.s 1 [i 12583560,i 0,i 0,i 0,i 0,i 16777215,i 0,i 0,i 10569226,i 0,i 4278016,i 0,i 14909453,i 0,i 6,i 0,i 0,i 0,i 0,i 0,i 0,i 0,i 0,i 0,i 0,i 0,i 0,i 0,i 0,i 0,i 0,i 0,i 0,i 0,i 0,i 0,i 0,i 0,i 0,i 0,i 0,i 0,i 0,i 0,i 0,i 0,i 0,i 0,i 0,i 0,i 0,i 0,i 0,i 0,i 0,i 0,i 0,i 0,i 0,i 0,i 0,i 0,i 0,i 0,i 0,i 0,i 0,i 0,i 0,i 0,i 0,i 0,i 0,i 0,i 0,i 0,i 0,i 0,i 0,i 0,i 0,i 0,i 0,i 0,i 0,i 0,i 0,i 0,i 0,i 0,i 0,i 0,i 0,i 0,i 0,i 0,i 0,i 0,i 0,i 0,i 0,i 0,i 0,i 0,i 0,i 0,i 0,i 0,i 0,i 0,i 0,i 0,i 0,i 0,i 0,i 0,i 0,i 0,i 0,i 0,i 0,i 0,i 0,i 0,i 0,i 0,i 0,i 0]),.d (.s 1 [i 3,i 4,i 16777215]),I 3,.d (.s 1 [i 6]),I 141,I 13,I 9,I 0],.x (I 1)]
def cr12:AV:=.t [.a [.d (.s 1 [i 12583560,i 0,i 0,i 0,i 0,i 16777215,i 0,i 0,i 10569226,i 0,i 4278016,i 0,i 14909453,i 0,i 6,i 0,i 0,i 0,i 0,i 0,i 0,i 0,i 0,i 0,i 0,i 0,i 0,i 0,i 0,i 0,i 0,i 0,i 0,i 0,i 0,i 0,i 0,i 0,i 0,i 0,i 0,i 0,i 0,i 0,i 0,i 0,i 0,i 0,i 0,i 0,i 0,i 0,i 0,i 0,i 0,i 0,i 0,i 0,i 0,i 0,i 0,i 0,i 0,i 0,i 0,i 0,i 0,i 0,i 0,i 0,i 0,i 0,i 0,i 0,i 0,i 0,i 0,i 0,i 0,i 0,i 0,i 0,i 0,i 0,i 0,i 0,i 0,i 0,i 0,i 0,i 0,i 0,i 0,i 0,i 0,i 0,i 0,i 0,i 0,i 0,i 0,i 0,i 0,i 0,i 0,i 0,i 0,i 0,i 0,i 0,i 0,i 0,i 0,i 0,i 0,i 0,i 0,i 0,i 0,i 0,i 0,i 0,i 0,i 0,i 0,i 0,i 0,i 0]),.d (.s 1 [i 3,i 4,i 16777215]),I 3,.d (.s 1 [i 6]),I 141,I 13,I 9,I 1],.x (I 0)]
theorem ck12:FnC Tryz.prog 9 ca12 cr12:=run_fact (by kernel_rfl)
def cf12:Fact Tryz.prog:=⟨9,ca12,cr12,fun σ=>ck12.call (by kernel_rfl) (by kernel_rfl)⟩
def ca13:List AV:=[.a [.d (.s 1 [i 12583560,i 0,i 0,i 0,i 0,i 16777215,i 0,i 0,i 10569226,i 0,i 4278016,i 0,i 14909453,i 0,i 6,i 0,i 0,i 0,i 0,i 0,i 0,i 0,i 0,i 0,i 0,i 0,i 0,i 0,i 0,i 0,i 0,i 0,i 0,i 0,i 0,i 0,i 0,i 0,i 0,i 0,i 0,i 0,i 0,i 0,i 0,i 0,i 0,i 0,i 0,i 0,i 0,i 0,i 0,i 0,i 0,i 0,i 0,i 0,i 0,i 0,i 0,i 0,i 0,i 0,i 0,i 0,i 0,i 0,i 0,i 0,i 0,i 0,i 0,i 0,i 0,i 0,i 0,i 0,i 0,i 0,i 0,i 0,i 0,i 0,i 0,i 0,i 0,i 0,i 0,i 0,i 0,i 0,i 0,i 0,i 0,i 0,i 0,i 0,i 0,i 0,i 0,i 0,i 0,i 0,i 0,i 0,i 0,i 0,i 0,i 0,i 0,i 0,i 0,i 0,i 0,i 0,i 0,i 0,i 0,i 0,i 0,i 0,i 0,i 0,i 0,i 0,i 0,i 0]),.d (.s 1 [i 3,i 4,i 16777215]),I 3,.d (.s 1 [i 6]),I 141,I 13,I 9,I 1],.x (I 1)]
def cr13:AV:=.t [.a [.d (.s 1 [i 12583560,i 0,i 0,i 0,i 0,i 16777215,i 0,i 0,i 10569226,i 0,i 4278016,i 0,i 14909453,i 0,i 6,i 0,i 0,i 0,i 0,i 0,i 0,i 0,i 0,i 0,i 0,i 0,i 0,i 0,i 0,i 0,i 0,i 0,i 0,i 0,i 0,i 0,i 0,i 0,i 0,i 0,i 0,i 0,i 0,i 0,i 0,i 0,i 0,i 0,i 0,i 0,i 0,i 0,i 0,i 0,i 0,i 0,i 0,i 0,i 0,i 0,i 0,i 0,i 0,i 0,i 0,i 0,i 0,i 0,i 0,i 0,i 0,i 0,i 0,i 0,i 0,i 0,i 0,i 0,i 0,i 0,i 0,i 0,i 0,i 0,i 0,i 0,i 0,i 0,i 0,i 0,i 0,i 0,i 0,i 0,i 0,i 0,i 0,i 0,i 0,i 0,i 0,i 0,i 0,i 0,i 0,i 0,i 0,i 0,i 0,i 0,i 0,i 0,i 0,i 0,i 0,i 0,i 0,i 0,i 0,i 0,i 0,i 0,i 0,i 0,i 0,i 0,i 0,i 0]),.d (.s 1 [i 3,i 4,i 16777215]),I 3,.d (.s 1 [i 6]),I 141,I 13,I 9,I 1],.x (I 0)]
theorem ck13:FnC Tryz.prog 9 ca13 cr13:=run_fact (by kernel_rfl)
def cf13:Fact Tryz.prog:=⟨9,ca13,cr13,fun σ=>ck13.call (by kernel_rfl) (by kernel_rfl)⟩
def ca14:List AV:=[.a [.d (.s 1 [i 12583560,i 0,i 0,i 0,i 0,i 0,i 0,i 0,i 10569226,i 0,i 4278016,i 0,i 14909453,i 0,i 0,i 0,i 0,i 0,i 0,i 0,i 0,i 0,i 0,i 0,i 0,i 0,i 0,i 0,i 0,i 0,i 0,i 0,i 0,i 0,i 0,i 0,i 0,i 0,i 0,i 0,i 0,i 0,i 0,i 0,i 0,i 0,i 0,i 0,i 0,i 0,i 0,i 0,i 0,i 0,i 0,i 0,i 0,i 0,i 0,i 0,i 0,i 0,i 0,i 0,i 0,i 0,i 0,i 0,i 0,i 0,i 0,i 0,i 0,i 0,i 0,i 0,i 0,i 0,i 0,i 0,i 0,i 0,i 0,i 0,i 0,i 0,i 0,i 0,i 0,i 0,i 0,i 0,i 0,i 0,i 0,i 0,i 0,i 0,i 0,i 0,i 0,i 0,i 0,i 0,i 0,i 0,i 0,i 0,i 0,i 0,i 0,i 0,i 0,i 0,i 0,i 0,i 0,i 0,i 0,i 0,i 0,i 0,i 0,i 0,i 0,i 0,i 0,i 0]),.d (.s 1 [i 3,i 4,i 16777215]),I 0,.d (.v (.slice none 0 0)),I 0,I 0,I 0,I 0],.x (.d (.s 3 [[.v (.int .i64 (5)),.v (.int .i64 (14)),.v (.int .i64 (1))]])),.x (I 100)]
def cr14:AV:=.t [.a [.d (.s 1 [i 12583560,i 0,i 0,i 0,i 0,i 16777215,i 0,i 0,i 10569226,i 0,i 4278016,i 0,i 14909453,i 0,i 6,i 0,i 0,i 0,i 0,i 0,i 0,i 0,i 0,i 0,i 0,i 0,i 0,i 0,i 0,i 0,i 0,i 0,i 0,i 0,i 0,i 0,i 0,i 0,i 0,i 0,i 0,i 0,i 0,i 0,i 0,i 0,i 0,i 0,i 0,i 0,i 0,i 0,i 0,i 0,i 0,i 0,i 0,i 0,i 0,i 0,i 0,i 0,i 0,i 0,i 0,i 0,i 0,i 0,i 0,i 0,i 0,i 0,i 0,i 0,i 0,i 0,i 0,i 0,i 0,i 0,i 0,i 0,i 0,i 0,i 0,i 0,i 0,i 0,i 0,i 0,i 0,i 0,i 0,i 0,i 0,i 0,i 0,i 0,i 0,i 0,i 0,i 0,i 0,i 0,i 0,i 0,i 0,i 0,i 0,i 0,i 0,i 0,i 0,i 0,i 0,i 0,i 0,i 0,i 0,i 0,i 0,i 0,i 0,i 0,i 0,i 0,i 0,i 0]),.d (.s 1 [i 3,i 4,i 16777215]),I 3,.d (.s 1 [i 6]),I 141,I 13,I 9,I 1],.x (I 0)]
theorem ck14:FnC Tryz.prog 14 ca14 cr14:=evF0 (M:=[cf2,cf3,cf4,cf5,cf6,cf7,cf8,cf9,cf10,cf11,cf12,cf13]) (by kernel_rfl) (by kernel_rfl)
def cf14:Fact Tryz.prog:=⟨14,ca14,cr14,fun σ=>ck14.call (by kernel_rfl) (by kernel_rfl)⟩
def ca15:List AV:=[.x (.d (.s 1 [i 12583560,i 0,i 0,i 0,i 0,i 3,i 0,i 0,i 10569226,i 0,i 4278016,i 0,i 14909453,i 0,i 0,i 0,i 0,i 0,i 0,i 0,i 0,i 0,i 0,i 0,i 0,i 0,i 0,i 0,i 0,i 0,i 0,i 0,i 0,i 0,i 0,i 0,i 0,i 0,i 0,i 0,i 0,i 0,i 0,i 0,i 0,i 0,i 0,i 0,i 0,i 0,i 0,i 0,i 0,i 0,i 0,i 0,i 0,i 0,i 0,i 0,i 0,i 0,i 0,i 0,i 0,i 0,i 0,i 0,i 0,i 0,i 0,i 0,i 0,i 0,i 0,i 0,i 0,i 0,i 0,i 0,i 0,i 0,i 0,i 0,i 0,i 0,i 0,i 0,i 0,i 0,i 0,i 0,i 0,i 0,i 0,i 0,i 0,i 0,i 0,i 0,i 0,i 0,i 0,i 0,i 0,i 0,i 0,i 0,i 0,i 0,i 0,i 0,i 0,i 0,i 0,i 0,i 0,i 0,i 0,i 0,i 0,i 0,i 0,i 0,i 0,i 0,i 0,i 0])),.x (.d (.s 1 [i 12583560,i 0,i 0,i 0,i 0,i 3,i 0,i 0,i 10569226,i 0,i 4278016,i 0,i 14909453,i 0,i 0,i 0,i 0,i 0,i 0,i 0,i 0,i 0,i 0,i 0,i 0,i 0,i 0,i 0,i 0,i 0,i 0,i 0,i 0,i 0,i 0,i 0,i 0,i 0,i 0,i 0,i 0,i 0,i 0,i 0,i 0,i 0,i 0,i 0,i 0,i 0,i 0,i 0,i 0,i 0,i 0,i 0,i 0,i 0,i 0,i 0,i 0,i 0,i 0,i 0,i 0,i 0,i 0,i 0,i 0,i 0,i 0,i 0,i 0,i 0,i 0,i 0,i 0,i 0,i 0,i 0,i 0,i 0,i 0,i 0,i 0,i 0,i 0,i 0,i 0,i 0,i 0,i 0,i 0,i 0,i 0,i 0,i 0,i 0,i 0,i 0,i 0,i 0,i 0,i 0,i 0,i 0,i 0,i 0,i 0,i 0,i 0,i 0,i 0,i 0,i 0,i 0,i 0,i 0,i 0,i 0,i 0,i 0,i 0,i 0,i 0,i 0,i 0,i 0]))]
def cr15:AV:=.x (.d (.v (.bool true)))
theorem ck15:FnC Tryz.prog 23 ca15 cr15:=evF0 (M:=[]) (by kernel_rfl) (by kernel_rfl)
def cf15:Fact Tryz.prog:=⟨23,ca15,cr15,fun σ=>ck15.call (by kernel_rfl) (by kernel_rfl)⟩
end Go.Proofs.YtpfiejadigkgaaaGreatDoor
namespace Go.Proofs.YtpfiejadigkgaaaGreatDoor
open Go Go.QL FoT
set_option maxRecDepth 1000000
def ca16:List AV:=[.x (.d (.s 1 [i 12583560,i 0,i 0,i 0,i 0,i 3,i 0,i 0,i 10569226,i 0,i 4278016,i 0,i 14909453,i 0,i 3,i 0,i 0,i 0,i 0,i 0,i 0,i 0,i 0,i 0,i 0,i 0,i 0,i 0,i 0,i 0,i 0,i 0,i 0,i 0,i 0,i 0,i 0,i 0,i 0,i 0,i 0,i 0,i 0,i 0,i 0,i 0,i 0,i 0,i 0,i 0,i 0,i 0,i 0,i 0,i 0,i 0,i 0,i 0,i 0,i 0,i 0,i 0,i 0,i 0,i 0,i 0,i 0,i 0,i 0,i 0,i 0,i 0,i 0,i 0,i 0,i 0,i 0,i 0,i 0,i 0,i 0,i 0,i 0,i 0,i 0,i 0,i 0,i 0,i 0,i 0,i 0,i 0,i 0,i 0,i 0,i 0,i 0,i 0,i 0,i 0,i 0,i 0,i 0,i 0,i 0,i 0,i 0,i 0,i 0,i 0,i 0,i 0,i 0,i 0,i 0,i 0,i 0,i 0,i 0,i 0,i 0,i 0,i 0,i 0,i 0,i 0,i 0,i 0])),.x (.d (.s 1 [i 12583560,i 0,i 0,i 0,i 0,i 3,i 0,i 0,i 10569226,i 0,i 4278016,i 0,i 14909453,i 0,i 3,i 0,i 0,i 0,i 0,i 0,i 0,i 0,i 0,i 0,i 0,i 0,i 0,i 0,i 0,i 0,i 0,i 0,i 0,i 0,i 0,i 0,i 0,i 0,i 0,i 0,i 0,i 0,i 0,i 0,i 0,i 0,i 0,i 0,i 0,i 0,i 0,i 0,i 0,i 0,i 0,i 0,i 0,i 0,i 0,i 0,i 0,i 0,i 0,i 0,i 0,i 0,i 0,i 0,i 0,i 0,i 0,i 0,i 0,i 0,i 0,i 0,i 0,i 0,i 0,i 0,i 0,i 0,i 0,i 0,i 0,i 0,i 0,i 0,i 0,i 0,i 0,i 0,i 0,i 0,i 0,i 0,i 0,i 0,i 0,i 0,i 0,i 0,i 0,i 0,i 0,i 0,i 0,i 0,i 0,i 0,i 0,i 0,i 0,i 0,i 0,i 0,i 0,i 0,i 0,i 0,i 0,i 0,i 0,i 0,i 0,i 0,i 0,i 0]))]
def cr16:AV:=.x (.d (.v (.bool true)))
theorem ck16:FnC Tryz.prog 23 ca16 cr16:=evF0 (M:=[]) (by kernel_rfl) (by kernel_rfl)
def cf16:Fact Tryz.prog:=⟨23,ca16,cr16,fun σ=>ck16.call (by kernel_rfl) (by kernel_rfl)⟩
def ca17:List AV:=[.x (.d (.s 1 [i 12583560,i 0,i 0,i 0,i 0,i 4,i 0,i 0,i 10569226,i 0,i 4278016,i 0,i 14909453,i 0,i 3,i 0,i 0,i 0,i 0,i 0,i 0,i 0,i 0,i 0,i 0,i 0,i 0,i 0,i 0,i 0,i 0,i 0,i 0,i 0,i 0,i 0,i 0,i 0,i 0,i 0,i 0,i 0,i 0,i 0,i 0,i 0,i 0,i 0,i 0,i 0,i 0,i 0,i 0,i 0,i 0,i 0,i 0,i 0,i 0,i 0,i 0,i 0,i 0,i 0,i 0,i 0,i 0,i 0,i 0,i 0,i 0,i 0,i 0,i 0,i 0,i 0,i 0,i 0,i 0,i 0,i 0,i 0,i 0,i 0,i 0,i 0,i 0,i 0,i 0,i 0,i 0,i 0,i 0,i 0,i 0,i 0,i 0,i 0,i 0,i 0,i 0,i 0,i 0,i 0,i 0,i 0,i 0,i 0,i 0,i 0,i 0,i 0,i 0,i 0,i 0,i 0,i 0,i 0,i 0,i 0,i 0,i 0,i 0,i 0,i 0,i 0,i 0,i 0])),.x (.d (.s 1 [i 12583560,i 0,i 0,i 0,i 0,i 4,i 0,i 0,i 10569226,i 0,i 4278016,i 0,i 14909453,i 0,i 3,i 0,i 0,i 0,i 0,i 0,i 0,i 0,i 0,i 0,i 0,i 0,i 0,i 0,i 0,i 0,i 0,i 0,i 0,i 0,i 0,i 0,i 0,i 0,i 0,i 0,i 0,i 0,i 0,i 0,i 0,i 0,i 0,i 0,i 0,i 0,i 0,i 0,i 0,i 0,i 0,i 0,i 0,i 0,i 0,i 0,i 0,i 0,i 0,i 0,i 0,i 0,i 0,i 0,i 0,i 0,i 0,i 0,i 0,i 0,i 0,i 0,i 0,i 0,i 0,i 0,i 0,i 0,i 0,i 0,i 0,i 0,i 0,i 0,i 0,i 0,i 0,i 0,i 0,i 0,i 0,i 0,i 0,i 0,i 0,i 0,i 0,i 0,i 0,i 0,i 0,i 0,i 0,i 0,i 0,i 0,i 0,i 0,i 0,i 0,i 0,i 0,i 0,i 0,i 0,i 0,i 0,i 0,i 0,i 0,i 0,i 0,i 0,i 0]))]
def cr17:AV:=.x (.d (.v (.bool true)))
theorem ck17:FnC Tryz.prog 23 ca17 cr17:=evF0 (M:=[]) (by kernel_rfl) (by kernel_rfl)
def cf17:Fact Tryz.prog:=⟨23,ca17,cr17,fun σ=>ck17.call (by kernel_rfl) (by kernel_rfl)⟩
def ca18:List AV:=[.a [.d (.s 1 [i 12583560,i 0,i 0,i 0,i 0,i 4,i 0,i 0,i 10569226,i 0,i 4278016,i 0,i 14909453,i 0,i 3,i 0,i 0,i 0,i 0,i 0,i 0,i 0,i 0,i 0,i 0,i 0,i 0,i 0,i 0,i 0,i 0,i 0,i 0,i 0,i 0,i 0,i 0,i 0,i 0,i 0,i 0,i 0,i 0,i 0,i 0,i 0,i 0,i 0,i 0,i 0,i 0,i 0,i 0,i 0,i 0,i 0,i 0,i 0,i 0,i 0,i 0,i 0,i 0,i 0,i 0,i 0,i 0,i 0,i 0,i 0,i 0,i 0,i 0,i 0,i 0,i 0,i 0,i 0,i 0,i 0,i 0,i 0,i 0,i 0,i 0,i 0,i 0,i 0,i 0,i 0,i 0,i 0,i 0,i 0,i 0,i 0,i 0,i 0,i 0,i 0,i 0,i 0,i 0,i 0,i 0,i 0,i 0,i 0,i 0,i 0,i 0,i 0,i 0,i 0,i 0,i 0,i 0,i 0,i 0,i 0,i 0,i 0,i 0,i 0,i 0,i 0,i 0,i 0]),.d (.s 1 [i 3,i 4,i 16777215]),I 2,.d (.s 1 []),I 74,I 10,I 5,I 0],.x (I 1)]
def cr18:AV:=.t [.a [.d (.s 1 [i 12583560,i 0,i 0,i 0,i 0,i 4,i 0,i 0,i 10569226,i 0,i 4278016,i 0,i 14909453,i 0,i 7,i 0,i 0,i 0,i 0,i 0,i 0,i 0,i 0,i 0,i 0,i 0,i 0,i 0,i 0,i 0,i 0,i 0,i 0,i 0,i 0,i 0,i 0,i 0,i 0,i 0,i 0,i 0,i 0,i 0,i 0,i 0,i 0,i 0,i 0,i 0,i 0,i 0,i 0,i 0,i 0,i 0,i 0,i 0,i 0,i 0,i 0,i 0,i 0,i 0,i 0,i 0,i 0,i 0,i 0,i 0,i 0,i 0,i 0,i 0,i 0,i 0,i 0,i 0,i 0,i 0,i 0,i 0,i 0,i 0,i 0,i 0,i 0,i 0,i 0,i 0,i 0,i 0,i 0,i 0,i 0,i 0,i 0,i 0,i 0,i 0,i 0,i 0,i 0,i 0,i 0,i 0,i 0,i 0,i 0,i 0,i 0,i 0,i 0,i 0,i 0,i 0,i 0,i 0,i 0,i 0,i 0,i 0,i 0,i 0,i 0,i 0,i 0,i 0]),.d (.s 1 [i 3,i 4,i 16777215]),I 2,.d (.s 1 []),I 96,I 0,I 6,I 0],.x (I 0)]
theorem ck18:FnC Tryz.prog 9 ca18 cr18:=run_fact (by kernel_rfl)
def cf18:Fact Tryz.prog:=⟨9,ca18,cr18,fun σ=>ck18.call (by kernel_rfl) (by kernel_rfl)⟩
def ca19:List AV:=[.x (.d (.s 1 [i 12583560,i 0,i 0,i 0,i 0,i 4,i 0,i 0,i 10569226,i 0,i 4278016,i 0,i 14909453,i 0,i 6,i 0,i 0,i 0,i 0,i 0,i 0,i 0,i 0,i 0,i 0,i 0,i 0,i 0,i 0,i 0,i 0,i 0,i 0,i 0,i 0,i 0,i 0,i 0,i 0,i 0,i 0,i 0,i 0,i 0,i 0,i 0,i 0,i 0,i 0,i 0,i 0,i 0,i 0,i 0,i 0,i 0,i 0,i 0,i 0,i 0,i 0,i 0,i 0,i 0,i 0,i 0,i 0,i 0,i 0,i 0,i 0,i 0,i 0,i 0,i 0,i 0,i 0,i 0,i 0,i 0,i 0,i 0,i 0,i 0,i 0,i 0,i 0,i 0,i 0,i 0,i 0,i 0,i 0,i 0,i 0,i 0,i 0,i 0,i 0,i 0,i 0,i 0,i 0,i 0,i 0,i 0,i 0,i 0,i 0,i 0,i 0,i 0,i 0,i 0,i 0,i 0,i 0,i 0,i 0,i 0,i 0,i 0,i 0,i 0,i 0,i 0,i 0,i 0])),.x (.d (.s 1 [i 12583560,i 0,i 0,i 0,i 0,i 4,i 0,i 0,i 10569226,i 0,i 4278016,i 0,i 14909453,i 0,i 7,i 0,i 0,i 0,i 0,i 0,i 0,i 0,i 0,i 0,i 0,i 0,i 0,i 0,i 0,i 0,i 0,i 0,i 0,i 0,i 0,i 0,i 0,i 0,i 0,i 0,i 0,i 0,i 0,i 0,i 0,i 0,i 0,i 0,i 0,i 0,i 0,i 0,i 0,i 0,i 0,i 0,i 0,i 0,i 0,i 0,i 0,i 0,i 0,i 0,i 0,i 0,i 0,i 0,i 0,i 0,i 0,i 0,i 0,i 0,i 0,i 0,i 0,i 0,i 0,i 0,i 0,i 0,i 0,i 0,i 0,i 0,i 0,i 0,i 0,i 0,i 0,i 0,i 0,i 0,i 0,i 0,i 0,i 0,i 0,i 0,i 0,i 0,i 0,i 0,i 0,i 0,i 0,i 0,i 0,i 0,i 0,i 0,i 0,i 0,i 0,i 0,i 0,i 0,i 0,i 0,i 0,i 0,i 0,i 0,i 0,i 0,i 0,i 0]))]
def cr19:AV:=.x (.d (.v (.bool false)))
theorem ck19:FnC Tryz.prog 23 ca19 cr19:=evF0 (M:=[]) (by kernel_rfl) (by kernel_rfl)
def cf19:Fact Tryz.prog:=⟨23,ca19,cr19,fun σ=>ck19.call (by kernel_rfl) (by kernel_rfl)⟩
def ca20:List AV:=[.a [.d (.s 1 [i 12583560,i 0,i 0,i 0,i 0,i 0,i 0,i 0,i 10569226,i 0,i 4278016,i 0,i 14909453,i 0,i 0,i 0,i 0,i 0,i 0,i 0,i 0,i 0,i 0,i 0,i 0,i 0,i 0,i 0,i 0,i 0,i 0,i 0,i 0,i 0,i 0,i 0,i 0,i 0,i 0,i 0,i 0,i 0,i 0,i 0,i 0,i 0,i 0,i 0,i 0,i 0,i 0,i 0,i 0,i 0,i 0,i 0,i 0,i 0,i 0,i 0,i 0,i 0,i 0,i 0,i 0,i 0,i 0,i 0,i 0,i 0,i 0,i 0,i 0,i 0,i 0,i 0,i 0,i 0,i 0,i 0,i 0,i 0,i 0,i 0,i 0,i 0,i 0,i 0,i 0,i 0,i 0,i 0,i 0,i 0,i 0,i 0,i 0,i 0,i 0,i 0,i 0,i 0,i 0,i 0,i 0,i 0,i 0,i 0,i 0,i 0,i 0,i 0,i 0,i 0,i 0,i 0,i 0,i 0,i 0,i 0,i 0,i 0,i 0,i 0,i 0,i 0,i 0,i 0]),.d (.s 1 [i 3,i 4,i 16777215]),I 0,.d (.v (.slice none 0 0)),I 0,I 0,I 0,I 0],.x (.d (.s 3 [[.v (.int .i64 (5)),.v (.int .i64 (14)),.v (.int .i64 (1))]])),.x (I 100)]
def cr20:AV:=.t [.x (I 5),.a [I 10,I 2,I 5,I 14,I 0,I 74,I 96],.x (I 0)]
theorem ck20:FnC Tryz.prog 11 ca20 cr20:=evF0 (M:=[cf2,cf3,cf15,cf4,cf5,cf16,cf6,cf17,cf7,cf18,cf8,cf19]) (by kernel_rfl) (by kernel_rfl)
def cf20:Fact Tryz.prog:=⟨11,ca20,cr20,fun σ=>ck20.call (by kernel_rfl) (by kernel_rfl)⟩
end Go.Proofs.YtpfiejadigkgaaaGreatDoor
namespace Go.Proofs.YtpfiejadigkgaaaGreatDoor
open Go Go.QL FoT
set_option maxRecDepth 1000000
def ca31:List AV:=[.a [.d (.s 1 [i 12583560,i 0,i 0,i 0,i 0,i 0,i 0,i 0,i 10569226,i 0,i 4278016,i 0,i 14909453,i 0,i 0,i 0,i 0,i 0,i 0,i 0,i 0,i 0,i 0,i 0,i 0,i 0,i 0,i 0,i 0,i 0,i 0,i 0,i 0,i 0,i 0,i 0,i 0,i 0,i 0,i 0,i 0,i 0,i 0,i 0,i 0,i 0,i 0,i 0,i 0,i 0,i 0,i 0,i 0,i 0,i 0,i 0,i 0,i 0,i 0,i 0,i 0,i 0,i 0,i 0,i 0,i 0,i 0,i 0,i 0,i 0,i 0,i 0,i 0,i 0,i 0,i 0,i 0,i 0,i 0,i 0,i 0,i 0,i 0,i 0,i 0,i 0,i 0,i 0,i 0,i 0,i 0,i 0,i 0,i 0,i 0,i 0,i 0,i 0,i 0,i 0,i 0,i 0,i 0,i 0,i 0,i 0,i 0,i 0,i 0,i 0,i 0,i 0,i 0,i 0,i 0,i 0,i 0,i 0,i 0,i 0,i 0,i 0,i 0,i 0,i 0,i 0,i 0,i 0]),.d (.s 1 [i 3,i 4,i 16777215]),I 0,.d (.v (.slice none 0 0)),I 0,I 0,I 0,I 0],.x (.d (.s 3 [[.v (.int .i64 (3)),.v (.int .i64 (5)),.v (.int .i64 (7))]])),.x (I 100)]
def cr31:AV:=.t [.x (I 0),.a [I 0,I 0,I 0,I 0,I 0,I 0,I 0],.x (I 9)]
theorem ck31:FnC Tryz.prog 11 ca31 cr31:=first_fact (by kernel_rfl)
def cf31:Fact Tryz.prog:=⟨11,ca31,cr31,fun σ=>ck31.call (by kernel_rfl) (by kernel_rfl)⟩
def ca32:List AV:=[.x (.d (.s 1 [i 12583560,i 0,i 0,i 0,i 0,i 16777215,i 0,i 0,i 10569226,i 0,i 4278016,i 0,i 14909453,i 0,i 6,i 0,i 0,i 0,i 0,i 0,i 0,i 0,i 0,i 0,i 0,i 0,i 0,i 0,i 0,i 0,i 0,i 0,i 0,i 0,i 0,i 0,i 0,i 0,i 0,i 0,i 0,i 0,i 0,i 0,i 0,i 0,i 0,i 0,i 0,i 0,i 0,i 0,i 0,i 0,i 0,i 0,i 0,i 0,i 0,i 0,i 0,i 0,i 0,i 0,i 0,i 0,i 0,i 0,i 0,i 0,i 0,i 0,i 0,i 0,i 0,i 0,i 0,i 0,i 0,i 0,i 0,i 0,i 0,i 0,i 0,i 0,i 0,i 0,i 0,i 0,i 0,i 0,i 0,i 0,i 0,i 0,i 0,i 0,i 0,i 0,i 0,i 0,i 0,i 0,i 0,i 0,i 0,i 0,i 0,i 0,i 0,i 0,i 0,i 0,i 0,i 0,i 0,i 0,i 0,i 0,i 0,i 0,i 0,i 0,i 0,i 0,i 0,i 0])),.x (.d (.s 1 [i 12583560,i 0,i 0,i 0,i 0,i 16777215,i 0,i 0,i 10569226,i 0,i 4278016,i 0,i 14909453,i 0,i 6,i 0,i 0,i 0,i 0,i 0,i 0,i 0,i 0,i 0,i 0,i 0,i 0,i 0,i 0,i 0,i 0,i 0,i 0,i 0,i 0,i 0,i 0,i 0,i 0,i 0,i 0,i 0,i 0,i 0,i 0,i 0,i 0,i 0,i 0,i 0,i 0,i 0,i 0,i 0,i 0,i 0,i 0,i 0,i 0,i 0,i 0,i 0,i 0,i 0,i 0,i 0,i 0,i 0,i 0,i 0,i 0,i 0,i 0,i 0,i 0,i 0,i 0,i 0,i 0,i 0,i 0,i 0,i 0,i 0,i 0,i 0,i 0,i 0,i 0,i 0,i 0,i 0,i 0,i 0,i 0,i 0,i 0,i 0,i 0,i 0,i 0,i 0,i 0,i 0,i 0,i 0,i 0,i 0,i 0,i 0,i 0,i 0,i 0,i 0,i 0,i 0,i 0,i 0,i 0,i 0,i 0,i 0,i 0,i 0,i 0,i 0,i 0,i 0]))]
def cr32:AV:=.x (.d (.v (.bool true)))
theorem ck32:FnC Tryz.prog 23 ca32 cr32:=evF0 (M:=[]) (by kernel_rfl) (by kernel_rfl)
def cf32:Fact Tryz.prog:=⟨23,ca32,cr32,fun σ=>ck32.call (by kernel_rfl) (by kernel_rfl)⟩
def ca33:List AV:=[.a [.d (.s 1 [i 12583560,i 0,i 0,i 0,i 0,i 16777215,i 0,i 0,i 10569226,i 0,i 4278016,i 0,i 14909453,i 0,i 6,i 0,i 0,i 0,i 0,i 0,i 0,i 0,i 0,i 0,i 0,i 0,i 0,i 0,i 0,i 0,i 0,i 0,i 0,i 0,i 0,i 0,i 0,i 0,i 0,i 0,i 0,i 0,i 0,i 0,i 0,i 0,i 0,i 0,i 0,i 0,i 0,i 0,i 0,i 0,i 0,i 0,i 0,i 0,i 0,i 0,i 0,i 0,i 0,i 0,i 0,i 0,i 0,i 0,i 0,i 0,i 0,i 0,i 0,i 0,i 0,i 0,i 0,i 0,i 0,i 0,i 0,i 0,i 0,i 0,i 0,i 0,i 0,i 0,i 0,i 0,i 0,i 0,i 0,i 0,i 0,i 0,i 0,i 0,i 0,i 0,i 0,i 0,i 0,i 0,i 0,i 0,i 0,i 0,i 0,i 0,i 0,i 0,i 0,i 0,i 0,i 0,i 0,i 0,i 0,i 0,i 0,i 0,i 0,i 0,i 0,i 0,i 0,i 0]),.d (.s 1 [i 3,i 4,i 16777215]),I 3,.d (.s 1 [i 6]),I 141,I 13,I 9,I 0],.a [.d (.s 1 [i 12583560,i 0,i 0,i 0,i 0,i 16777215,i 0,i 0,i 10569226,i 0,i 4278016,i 0,i 14909453,i 0,i 6,i 0,i 0,i 0,i 0,i 0,i 0,i 0,i 0,i 0,i 0,i 0,i 0,i 0,i 0,i 0,i 0,i 0,i 0,i 0,i 0,i 0,i 0,i 0,i 0,i 0,i 0,i 0,i 0,i 0,i 0,i 0,i 0,i 0,i 0,i 0,i 0,i 0,i 0,i 0,i 0,i 0,i 0,i 0,i 0,i 0,i 0,i 0,i 0,i 0,i 0,i 0,i 0,i 0,i 0,i 0,i 0,i 0,i 0,i 0,i 0,i 0,i 0,i 0,i 0,i 0,i 0,i 0,i 0,i 0,i 0,i 0,i 0,i 0,i 0,i 0,i 0,i 0,i 0,i 0,i 0,i 0,i 0,i 0,i 0,i 0,i 0,i 0,i 0,i 0,i 0,i 0,i 0,i 0,i 0,i 0,i 0,i 0,i 0,i 0,i 0,i 0,i 0,i 0,i 0,i 0,i 0,i 0,i 0,i 0,i 0,i 0,i 0,i 0]),.d (.s 1 [i 3,i 4,i 16777215]),I 3,.d (.s 1 [i 6]),I 141,I 13,I 9,I 0]]
def cr33:AV:=.x (.d (.v (.bool true)))
theorem ck33:FnC Tryz.prog 33 ca33 cr33:=evF0 (M:=[cf32]) (by kernel_rfl) (by kernel_rfl)
def cf33:Fact Tryz.prog:=⟨33,ca33,cr33,fun σ=>ck33.call (by kernel_rfl) (by kernel_rfl)⟩
def ca34:List AV:=[.a [.d (.s 1 [i 12583560,i 0,i 0,i 0,i 0,i 0,i 0,i 0,i 10569226,i 0,i 4278016,i 0,i 14909453,i 0,i 0,i 0,i 0,i 0,i 0,i 0,i 0,i 0,i 0,i 0,i 0,i 0,i 0,i 0,i 0,i 0,i 0,i 0,i 0,i 0,i 0,i 0,i 0,i 0,i 0,i 0,i 0,i 0,i 0,i 0,i 0,i 0,i 0,i 0,i 0,i 0,i 0,i 0,i 0,i 0,i 0,i 0,i 0,i 0,i 0,i 0,i 0,i 0,i 0,i 0,i 0,i 0,i 0,i 0,i 0,i 0,i 0,i 0,i 0,i 0,i 0,i 0,i 0,i 0,i 0,i 0,i 0,i 0,i 0,i 0,i 0,i 0,i 0,i 0,i 0,i 0,i 0,i 0,i 0,i 0,i 0,i 0,i 0,i 0,i 0,i 0,i 0,i 0,i 0,i 0,i 0,i 0,i 0,i 0,i 0,i 0,i 0,i 0,i 0,i 0,i 0,i 0,i 0,i 0,i 0,i 0,i 0,i 0,i 0,i 0,i 0,i 0,i 0,i 0]),.d (.s 1 [i 3,i 4,i 16777215]),I 0,.d (.v (.slice none 0 0)),I 0,I 0,I 0,I 0],.x (.d (.s 3 [[.v (.int .i64 (5)),.v (.int .i64 (14)),.v (.int .i64 (1))]])),.x (I 3),.x (I 9),.x (.d (.v (.bool false)))]
def cr34:AV:=.t [.x (.d (.v (.slice none 0 0))),.x (I 0)]
theorem ck34:FnC Tryz.prog 48 ca34 cr34:=evF0 (M:=[cf2,cf3,cf4,cf5,cf16,cf6,cf7,cf8,cf9,cf10,cf11,cf33]) (by kernel_rfl) (by kernel_rfl)
def cf34:Fact Tryz.prog:=⟨48,ca34,cr34,fun σ=>ck34.call (by kernel_rfl) (by kernel_rfl)⟩
def ca35:List AV:=[.x (.d (.s 1 [i 12583560,i 0,i 0,i 0,i 0,i 4,i 0,i 0,i 10569226,i 0,i 4278016,i 0,i 14909453,i 0,i 7,i 0,i 0,i 0,i 0,i 0,i 0,i 0,i 0,i 0,i 0,i 0,i 0,i 0,i 0,i 0,i 0,i 0,i 0,i 0,i 0,i 0,i 0,i 0,i 0,i 0,i 0,i 0,i 0,i 0,i 0,i 0,i 0,i 0,i 0,i 0,i 0,i 0,i 0,i 0,i 0,i 0,i 0,i 0,i 0,i 0,i 0,i 0,i 0,i 0,i 0,i 0,i 0,i 0,i 0,i 0,i 0,i 0,i 0,i 0,i 0,i 0,i 0,i 0,i 0,i 0,i 0,i 0,i 0,i 0,i 0,i 0,i 0,i 0,i 0,i 0,i 0,i 0,i 0,i 0,i 0,i 0,i 0,i 0,i 0,i 0,i 0,i 0,i 0,i 0,i 0,i 0,i 0,i 0,i 0,i 0,i 0,i 0,i 0,i 0,i 0,i 0,i 0,i 0,i 0,i 0,i 0,i 0,i 0,i 0,i 0,i 0,i 0,i 0])),.x (.d (.s 1 [i 12583560,i 0,i 0,i 0,i 0,i 4,i 0,i 0,i 10569226,i 0,i 4278016,i 0,i 14909453,i 0,i 6,i 0,i 0,i 0,i 0,i 0,i 0,i 0,i 0,i 0,i 0,i 0,i 0,i 0,i 0,i 0,i 0,i 0,i 0,i 0,i 0,i 0,i 0,i 0,i 0,i 0,i 0,i 0,i 0,i 0,i 0,i 0,i 0,i 0,i 0,i 0,i 0,i 0,i 0,i 0,i 0,i 0,i 0,i 0,i 0,i 0,i 0,i 0,i 0,i 0,i 0,i 0,i 0,i 0,i 0,i 0,i 0,i 0,i 0,i 0,i 0,i 0,i 0,i 0,i 0,i 0,i 0,i 0,i 0,i 0,i 0,i 0,i 0,i 0,i 0,i 0,i 0,i 0,i 0,i 0,i 0,i 0,i 0,i 0,i 0,i 0,i 0,i 0,i 0,i 0,i 0,i 0,i 0,i 0,i 0,i 0,i 0,i 0,i 0,i 0,i 0,i 0,i 0,i 0,i 0,i 0,i 0,i 0,i 0,i 0,i 0,i 0,i 0,i 0]))]
def cr35:AV:=.x (.d (.v (.bool false)))
theorem ck35:FnC Tryz.prog 23 ca35 cr35:=evF0 (M:=[]) (by kernel_rfl) (by kernel_rfl)
def cf35:Fact Tryz.prog:=⟨23,ca35,cr35,fun σ=>ck35.call (by kernel_rfl) (by kernel_rfl)⟩
def ca36:List AV:=[.a [.d (.s 1 [i 12583560,i 0,i 0,i 0,i 0,i 0,i 0,i 0,i 10569226,i 0,i 4278016,i 0,i 14909453,i 0,i 0,i 0,i 0,i 0,i 0,i 0,i 0,i 0,i 0,i 0,i 0,i 0,i 0,i 0,i 0,i 0,i 0,i 0,i 0,i 0,i 0,i 0,i 0,i 0,i 0,i 0,i 0,i 0,i 0,i 0,i 0,i 0,i 0,i 0,i 0,i 0,i 0,i 0,i 0,i 0,i 0,i 0,i 0,i 0,i 0,i 0,i 0,i 0,i 0,i 0,i 0,i 0,i 0,i 0,i 0,i 0,i 0,i 0,i 0,i 0,i 0,i 0,i 0,i 0,i 0,i 0,i 0,i 0,i 0,i 0,i 0,i 0,i 0,i 0,i 0,i 0,i 0,i 0,i 0,i 0,i 0,i 0,i 0,i 0,i 0,i 0,i 0,i 0,i 0,i 0,i 0,i 0,i 0,i 0,i 0,i 0,i 0,i 0,i 0,i 0,i 0,i 0,i 0,i 0,i 0,i 0,i 0,i 0,i 0,i 0,i 0,i 0,i 0,i 0]),.d (.s 1 [i 3,i 4,i 16777215]),I 0,.d (.v (.slice none 0 0)),I 0,I 0,I 0,I 0],.x (.d (.s 3 [[.v (.int .i64 (5)),.v (.int .i64 (14)),.v (.int .i64 (1))]])),.x (I 3),.x (I 9),.x (.d (.v (.bool true)))]
def cr36:AV:=.t [.x (.d (.s 1 [i 1])),.x (I 0)]
theorem ck36:FnC Tryz.prog 48 ca36 cr36:=evF0 (M:=[cf2,cf3,cf4,cf5,cf6,cf7,cf8,cf18,cf35,cf9,cf10,cf11]) (by kernel_rfl) (by kernel_rfl)
def cf36:Fact Tryz.prog:=⟨48,ca36,cr36,fun σ=>ck36.call (by kernel_rfl) (by kernel_rfl)⟩
def ca37:List AV:=[.x (.d (.v (.string ⟨#[116,97,110,107,95,51]⟩)))]
def cr37:AV:=.x (.d (.v (.bool true)))
theorem ck37:FnC Tryz.prog 80 ca37 cr37:=evF0 (M:=[]) (by kernel_rfl) (by kernel_rfl)
def cf37:Fact Tryz.prog:=⟨80,ca37,cr37,fun σ=>ck37.call (by kernel_rfl) (by kernel_rfl)⟩
def ca38:List AV:=[.x (.d (.s 4 [[.v (.int .i64 (1)),.v (.int .i64 (1)),.v (.int .i64 (10)),.v (.string ⟨#[116,97,110,107,95,51]⟩)],[.v (.int .i64 (2)),.v (.int .i64 (1)),.v (.int .i64 (14)),.v (.string ⟨#[116,97,110,107,95,51]⟩)],[.v (.int .i64 (3)),.v (.int .i64 (2)),.v (.int .i64 (12)),.v (.string ⟨#[116,97,110,107,95,51]⟩)]])),.x (.f (.func 83) [] [])]
def cr38:AV:=.x (.d (.s 4 [[.v (.int .i64 (1)),.v (.int .i64 (1)),.v (.int .i64 (10)),.v (.string ⟨#[116,97,110,107,95,51]⟩)],[.v (.int .i64 (3)),.v (.int .i64 (2)),.v (.int .i64 (12)),.v (.string ⟨#[116,97,110,107,95,51]⟩)],[.v (.int .i64 (2)),.v (.int .i64 (1)),.v (.int .i64 (14)),.v (.string ⟨#[116,97,110,107,95,51]⟩)]]))
theorem ck38:FnC Tryz.prog 82 ca38 cr38:=evF0 (M:=[]) (by kernel_rfl) (by kernel_rfl)
def cf38:Fact Tryz.prog:=⟨82,ca38,cr38,fun σ=>ck38.call (by kernel_rfl) (by kernel_rfl)⟩
def ca39:List AV:=[.x (.d (.s 4 [[.v (.int .i64 (1)),.v (.int .i64 (1)),.v (.int .i64 (10)),.v (.string ⟨#[116,97,110,107,95,51]⟩)],[.v (.int .i64 (2)),.v (.int .i64 (1)),.v (.int .i64 (14)),.v (.string ⟨#[116,97,110,107,95,51]⟩)],[.v (.int .i64 (3)),.v (.int .i64 (2)),.v (.int .i64 (12)),.v (.string ⟨#[116,97,110,107,95,51]⟩)]])),.x (I 5),.x (I 2)]
def cr39:AV:=.t [.x (.d (.s 2 [[.v (.int .i64 (1)),.v (.string ⟨#[116,97,110,107,95,51]⟩)]])),.x (I 0)]
theorem ck39:FnC Tryz.prog 49 ca39 cr39:=evF0 (M:=[cf37,cf38]) (by kernel_rfl) (by kernel_rfl)
def cf39:Fact Tryz.prog:=⟨49,ca39,cr39,fun σ=>ck39.call (by kernel_rfl) (by kernel_rfl)⟩
def ca40:List AV:=[.x (.d (.s 4 [[.v (.int .i64 (1)),.v (.int .i64 (1)),.v (.int .i64 (10)),.v (.string ⟨#[116,97,110,107,95,51]⟩)],[.v (.int .i64 (2)),.v (.int .i64 (1)),.v (.int .i64 (14)),.v (.string ⟨#[116,97,110,107,95,51]⟩)],[.v (.int .i64 (3)),.v (.int .i64 (2)),.v (.int .i64 (12)),.v (.string ⟨#[116,97,110,107,95,51]⟩)],[.v (.int .i64 (2)),.v (.int .i64 (1)),.v (.int .i64 (14)),.v (.string ⟨#[116,97,110,107,95,51]⟩)],[.v (.int .i64 (3)),.v (.int .i64 (2)),.v (.int .i64 (12)),.v (.string ⟨#[116,97,110,107,95,51]⟩)]])),.x (.f (.func 83) [] [])]
def cr40:AV:=.x (.d (.s 4 [[.v (.int .i64 (1)),.v (.int .i64 (1)),.v (.int .i64 (10)),.v (.string ⟨#[116,97,110,107,95,51]⟩)],[.v (.int .i64 (3)),.v (.int .i64 (2)),.v (.int .i64 (12)),.v (.string ⟨#[116,97,110,107,95,51]⟩)],[.v (.int .i64 (2)),.v (.int .i64 (1)),.v (.int .i64 (14)),.v (.string ⟨#[116,97,110,107,95,51]⟩)]]))
theorem ck40:FnC Tryz.prog 82 ca40 cr40:=evF0 (M:=[]) (by kernel_rfl) (by kernel_rfl)
def cf40:Fact Tryz.prog:=⟨82,ca40,cr40,fun σ=>ck40.call (by kernel_rfl) (by kernel_rfl)⟩
def ca41:List AV:=[]
def cr41:AV:=.x (.d (.v (.bool true)))
theorem ck41:FnC Tryz.prog 13 ca41 cr41:=evF0 (M:=[cf1,cf14,cf20,cf31,cf34,cf36,cf39,cf37,cf40]) (by kernel_rfl) (by kernel_rfl)
end Go.Proofs.YtpfiejadigkgaaaGreatDoor
namespace Go.Proofs.YtpfiejadigkgaaaGreatDoor
open Go Go.QL FoT
set_option maxRecDepth 1000000
attribute [local irreducible] ACall FnC YC
theorem tried_fact:FnC Tryz.prog 22 da4 dr4:=by
 have h:=tried_fn adder ad_i64 [⟨7,0⟩,⟨2,1⟩,⟨6,0⟩,⟨4,0⟩] [[3,0],[0],[3,1,0]] fun _ n ok s1 sk hsk s2 s3 k' nw flt hl xs hx=>run_5 ok hsk hl xs hx
 have e:(.t [cubeAV (triedR adder [⟨7,0⟩,⟨2,1⟩,⟨6,0⟩,⟨4,0⟩] [[3,0],[0],[3,1,0]]).1,iv .i64 (triedR adder [⟨7,0⟩,⟨2,1⟩,⟨6,0⟩,⟨4,0⟩] [[3,0],[0],[3,1,0]]).2]:AV)=dr4:=by kernel_rfl
 rw [e] at h;exact h
theorem awake02_fn:FnC Tryz.prog 12 [] (bv true):=dk17 tried_fact
theorem awake12_fn:FnC Tryz.prog 13 [] (bv true):=ck41
end Go.Proofs.YtpfiejadigkgaaaGreatDoor
namespace Go.Proofs.YtpfiejadigkgaaaGreatDoor
open Go Go.QL FoT
set_option maxHeartbeats 3200000
attribute [local irreducible] ACall FnC
theorem ztM (a b:List Int):FnC Tryz.prog 15 [sl a,sl b] (bv (decide (a=b))):=by
 have hla:(a.map fun n:Int=>[PV.v (.int .i64 n)]).length=a.length:=List.length_map _;have hlb:(b.map fun n:Int=>[PV.v (.int .i64 n)]).length=b.length:=List.length_map _;by_cases hl:a.length=b.length
 ·refine hdC Tryz.func15 Tryz.ntmps15 (res:=[.tmp 4]) fun w0 K0=>?_
  repeat' first|refine zd ?_|refine zc ?_|((first|refine zf ?_|refine zi ?_|refine regA ?_|fail);conv=>whnf)|exact abA hb|(refine zso rfl (fun hb=>?_) (fun hb=>?_))|(refine lnA fun hln=>?_;conv=>whnf)|fail
  refine zJ (fun i:Nat=>[(5,iv .i64 i),(4,bv false),(1,sl b),(0,sl a)]) (fun _=>[]) (fun i=>i≤a.length∧a.take i=b.take i) (fun i=>a.length - i) 0 ⟨Nat.zero_le _,rfl⟩ impA ?_
  rintro j ⟨hj,he⟩;rcases Nat.lt_or_ge j a.length with hjl|hjl
  ·have ga:(a.map fun n:Int=>[PV.v (.int .i64 n)])[(j:Int).toNat]?=some [PV.v (.int .i64 a[j])]:=by rw [Int.toNat_natCast,List.getElem?_map,List.getElem?_eq_getElem hjl];rfl
   have gb:(b.map fun n:Int=>[PV.v (.int .i64 n)])[(j:Int).toNat]?=some [PV.v (.int .i64 (b[j]'(by omega)))]:=by rw [Int.toNat_natCast,List.getElem?_map,List.getElem?_eq_getElem (by omega)];rfl
   by_cases hx:a[j]=b[j]'(by omega)
   ·repeat' first|refine zd ?_|refine zc ?_|((first|refine zf ?_|refine zk ?_|refine zi ?_|refine regA ?_|refine drA (id:=6) 8 false [0,0,3,7,0,0,48,112,255] ?_|fail);conv=>whnf)|exact abA hb|((first|refine⟨_,ze ⟨by omega,ga⟩,?_⟩|refine⟨_,ze ⟨by omega,gb⟩,?_⟩|fail);conv=>whnf)|(refine zso rfl (fun hb=>?_) (fun hb=>?_))|((first|refine zsq ?_|refine andA ?_|fail);conv=>whnf)|(refine lnA fun hln=>?_;conv=>whnf)|fail
    exact⟨j+1,⟨by omega,by rw [List.take_add_one,List.take_add_one,he,List.getElem?_eq_getElem hjl,List.getElem?_eq_getElem (show j < b.length by omega),hx]⟩,by omega,impA⟩
   ·have hd:decide (a=b)=false:=decide_eq_false (by intro e;subst e;exact hx rfl);rw [hd];repeat' first|refine zd ?_|refine zc ?_|((first|refine zf ?_|refine zk ?_|refine zi ?_|refine regA ?_|refine drA (id:=6) 8 false [0,0,3,7,0,0,48,112,255] ?_|fail);conv=>whnf)|exact abA hb|((first|refine⟨_,ze ⟨by omega,ga⟩,?_⟩|refine⟨_,ze ⟨by omega,gb⟩,?_⟩|fail);conv=>whnf)|(refine zso rfl (fun hb=>?_) (fun hb=>?_))|((refine andA ?_);conv=>whnf)|(refine lnA fun hln=>?_;conv=>whnf)|fail
    rfl
  ·have hd:decide (a=b)=true:=decide_eq_true (by rw [List.take_of_length_le (by omega),List.take_of_length_le (by omega)] at he;exact he);rw [hd];repeat' first|refine zd ?_|refine zc ?_|((first|refine zf ?_|refine zk ?_|refine zi ?_|refine regA ?_|refine drA (id:=6) 8 false [0,0,3,7,0,0,48,112,255] ?_|fail);conv=>whnf)|exact abA hb|(refine zso rfl (fun hb=>?_) (fun hb=>?_))|(refine lnA fun hln=>?_;conv=>whnf)|fail
   rfl
 ·have hd:decide (a=b)=false:=decide_eq_false (by intro e;subst e;exact hl rfl);rw [hd];refine hdC Tryz.func15 Tryz.ntmps15 (res:=[.tmp 4]) fun w0 K0=>?_
  repeat' first|refine zd ?_|refine zc ?_|((first|refine zf ?_|refine zi ?_|refine regA ?_|fail);conv=>whnf)|exact abA hb|(refine zso rfl (fun hb=>?_) (fun hb=>?_))|(refine lnA fun hln=>?_;conv=>whnf)|fail
  rfl
end Go.Proofs.YtpfiejadigkgaaaGreatDoor
namespace Go.Proofs.YtpfiejadigkgaaaGreatDoor
open Go Go.QL FoT
set_option maxHeartbeats 3200000
set_option maxRecDepth 20000
attribute [local irreducible] ACall FnC YC
theorem Stp.at20 {P:Program} {Γ:Cx} {y:Code} {ops:Array Oper} {b:Bool} {Q:Exit→Fr→Sg→Prop} {fr:Fr} {σ:Sg} (h:Stp P Γ (.seq (.region 20 ops b) y) Q fr σ):AW P Γ (.seq (.region 20 ops b) y) Q fr σ:=by unfold Stp at h;exact h
theorem Stp.at29 {P:Program} {Γ:Cx} {y:Code} {ops:Array Oper} {b:Bool} {Q:Exit→Fr→Sg→Prop} {fr:Fr} {σ:Sg} (h:Stp P Γ (.seq (.region 29 ops b) y) Q fr σ):AW P Γ (.seq (.region 29 ops b) y) Q fr σ:=by unfold Stp at h;exact h
theorem ztJ (op a b c:Int) (h0:0≤op∧op≤7) (h1:0≤a∧a≤127) (h2:0≤b∧b≤127) (h3:0≤c∧c≤127):FnC Tryz.prog 7 [.a [iC op,iC a,iC b,iC c]] (iv .i64 (encW op a b c)):=by
 unfold encW;refine hdC Tryz.func7 Tryz.ntmps7 (res:=[.tmp 2]) fun w0 K0=>?_
 repeat' first|refine zd ?_|((first|refine zi ?_|refine regA ?_|refine zsq ?_|refine andA ?_|fail);conv=>whnf)|fail
 rfl
theorem xor_zero {a b:Int} (ha:zP a) (hb:zP b):xorI a b=0↔a=b:=by
 rw [xor_nat ha hb];unfold zP at ha hb;have:a.toNat ^^^ b.toNat=0↔a.toNat=b.toNat:=by
  constructor
  ·intro h;have h2:a.toNat ^^^ b.toNat ^^^ b.toNat=b.toNat:=by rw [h,Nat.zero_xor]
   rwa [Nat.xor_assoc,Nat.xor_self,Nat.xor_zero] at h2
  ·intro h;rw [h,Nat.xor_self]
 omega
theorem xor_back {a b:Int} (ha:zP a) (hb:zP b):xorI b (xorI a b)=a:=by
 have hw:zP (xorI a b):=xor_word ha hb;rw [xor_nat hb hw,xor_nat ha hb,Int.toNat_natCast,Nat.xor_comm,Nat.xor_assoc,Nat.xor_self,Nat.xor_zero];unfold zP at ha;omega
theorem topstuck_fn (a b x0 x1:Int) (ha:0≤a∧a < 4294967296) (hc:0≤b∧b < 4294967296) (h0:0≤x0∧x0 < 256) (h1:0≤x1∧x1 < 256) :
  FnC Tryz.prog 3 [iv .u32 a,iv .u32 b,.a [.d (.v (.int .u8 x0)),.d (.v (.int .u8 x1))]] (bv true):=by
 obtain⟨p,hp,hpw⟩:∃ p,a.tmod 16777216=p∧zP p:=⟨_,rfl,by unfold zP;rw [Int.tmod_eq_emod_of_nonneg ha.1];omega⟩;obtain⟨q,hq,hqw⟩:∃ q,b.tmod 16777216=q∧zP q:=⟨_,rfl,by unfold zP;rw [Int.tmod_eq_emod_of_nonneg hc.1];omega⟩;obtain⟨s,hs,hsw⟩:∃ s,x0.tmod 8=s∧0≤s∧s < 8:=⟨_,rfl,by rw [Int.tmod_eq_emod_of_nonneg h0.1];omega⟩;obtain⟨t,ht,htw⟩:∃ t,x1.tmod 2=t∧0≤t∧t < 2:=⟨_,rfl,by rw [Int.tmod_eq_emod_of_nonneg h1.1];omega⟩;have hxl:=addI_len p q 24;have hst:=pstuck_fn adder ad_i64 ⟨s,t⟩ (addI p q 24);have hfe:faultErr adder ⟨s,t⟩=0:=by
  unfold faultErr;rw [if_neg,if_neg]
  ·show ¬ inB t 0 1=false
   rw [inB_iff.2 (by omega)];decide
  ·show ¬ inB s 0 7=false
   rw [inB_iff.2 (by omega)];decide
 have hie:=add_err p q 24 (by decide);rw [show stuckR adder ⟨s,t⟩ (addI p q 24)=(outsR adder ⟨s,t⟩ (addI p q 24) 24,0) from by unfold stuckR;rw [if_pos ad_chk,if_pos hfe,if_pos hie,hxl]] at hst;have htb:=ptable_fn adder ad_i64 [⟨s,t⟩] [addI p q 24] fun _ n ok s1 sk hsk s2 s3 k' nw flt hl xs hx=>run_2 ok hsk hl xs hx
 have hask:askedR adder [⟨s,t⟩] [addI p q 24]=0:=by
  unfold askedR;rw [if_pos ad_chk,if_neg (by simp)];simp only [List.map_cons,List.map_nil,List.cons_append,List.nil_append,hfe,hie];rfl
 rw [show tableR adder [⟨s,t⟩] [addI p q 24]=([[!sameInts (addO p q 24) (outsR adder ⟨s,t⟩ (addI p q 24) 24)]],0) from by
  unfold tableR;rw [if_pos hask];unfold rowR oR;simp only [List.map_cons,List.map_nil,hxl,add_outs]] at htb
 have hlb:=stuck_outs (f:=⟨s,t⟩) hsw htw p q 24;have hll:=outsR_len adder ⟨s,t⟩ (addI p q 24) 24;have hol:=addO_len p q 24;have hob:=addO_bits p q 24;have hsum:=sumB_add p q 24 24 (Nat.le_refl _);have heq:sameInts (addO p q 24) (outsR adder ⟨s,t⟩ (addI p q 24) 24)=decide (sumB (outsR adder ⟨s,t⟩ (addI p q 24) 24) 24=(p+q) % 16777216):=by
  unfold sameInts;rw [decide_eq_decide];constructor
  ·intro h;rw [← h,hsum];rfl
  ·intro h;exact (sumB_eq hlb hob 24 hll hol (by rw [h,hsum];rfl)).symm
 rw [heq] at htb;generalize hL:outsR adder ⟨s,t⟩ (addI p q 24) 24=l at *;generalize hX:addI p q 24=X at *;have hwl:=sumB_lt hlb 24;generalize hW:sumB l 24=wr at *;have hww:zP wr:=by unfold zP;omega
 have hsw2:zP ((q+p) % 16777216):=by unfold zP;omega
 have c1:=padder_fn;have b1:=begin_fn (st22 p q) [] 0 (show 22≤128 by decide) (show 0≤200 by decide) (by
  intro x hx;unfold st22 at hx;unfold zP at hpw hqw;rcases List.mem_append.1 hx with h|h
  ·rcases List.mem_append.1 h with h|h
   ·have:=enc_word;unfold zP at this;rcases List.mem_cons.1 h with rfl|h
    ·exact this.1
    ·rw [List.mem_singleton.1 h];exact this.2
   ·rw [List.eq_of_mem_replicate h];decide
  ·rcases List.mem_cons.1 h with rfl|h
   ·exact hpw
   ·rw [List.mem_singleton.1 h];exact hqw) (fun x hx=>by cases hx) ⟨by decide,by decide⟩
 rw [begin_sA] at b1;have hg:=good_A hpw hqw;have b2:=orun_fn (sA p q) hg 10 (by decide);rw [run10] at b2;have b3:=turned_fn wr ((q+p) % 16777216) hww hsw2;have w1:=ztJ 2 20 21 1 (by decide) (by decide) (by decide) (by decide);have w2:=ztJ 7 21 0 2 (by decide) (by decide) (by decide) (by decide);have aw1:=awake02_fn;have aw2:=awake12_fn;rw [show (p+q) % 16777216=(q+p) % 16777216 from by rw [Int.add_comm]] at htb;generalize hS:(q+p) % 16777216=S at *;have hb0:=fun i=>bit2 (x:=p) hpw.1 i
 have hb1:=fun i=>bit2 (x:=q) hqw.1 i
 refine hdC Tryz.func3 Tryz.ntmps3 (res:=[.tmp 6]) fun w0 K0=>?_
 repeat' first|refine zd ?_|refine zc ?_|((first|refine regA ?_|refine⟨_,hp,?_⟩|refine⟨_,hq,?_⟩|refine⟨_,hs,?_⟩|refine⟨_,ht,?_⟩|refine zsq ?_|refine andA ?_|fail);conv=>whnf)|fail
 refine zaq (Imp.nil 10 3 1 (fr':=[(11,iv .i64 0),(10,.x (.o 10 0 0)),(9,.x (.b 9 0)),(8,iv .i64 q),(7,iv .i64 p)]) (σ':=[(9,.box [iC s,iC t])]) rfl ?_ ?_ rfl rfl) ?_
 ·exact⟨⟨_,rfl,.inl rfl⟩,⟨_,rfl,.inr ⟨rfl,rfl⟩⟩,⟨_,rfl,.inl rfl⟩,⟨_,rfl,.inl rfl⟩,⟨_,rfl,.inl rfl⟩,trivial⟩
 ·exact⟨⟨_,rfl,.inl rfl⟩,trivial⟩
 refine zJ (fun i:Nat=>[(11,iv .i64 i),(10,.x (.o 10 i i)),(9,.x (.b 9 0)),(8,iv .i64 q),(7,iv .i64 p)])
  (fun i=>[(10,.chain 3 1 i ((addI p q i).map iPV)),(9,.box [iC s,iC t])]) (fun i=>i≤24) (fun i=>24 - i) 0 (Nat.zero_le _) (impX (by repeat' (first|exact trivial|refine And.intro ?_ ?_|exact ivE (by simp)|exact zsw))) ?_
 intro i hi;rcases Nat.lt_or_ge i 24 with hil|hil
 ·have l1:=addI_len p q i;have e1:((addI p q i).map iPV).take i ++ [[PV.v (.int .i64 (p / 2 ^ i % 2+2 * (q / 2 ^ i % 2)))]]=(addI p q (i+1)).map iPV:=by
   rw [addI_succ,List.map_append,List.take_of_length_le (by simp [l1])];rfl
  have s1:=shr_i p i (by omega);have s2:=shr_i q i (by omega);have g1:=hb0 i;have g2:=hb1 i;have gu:i≤((addI p q i).map iPV).length:=by rw [List.length_map,l1];exact Nat.le_refl _
  have q1:0≤p / 2 ^ i % 2∧p / 2 ^ i % 2≤1:=by omega
  have q2:0≤q / 2 ^ i % 2∧q / 2 ^ i % 2≤1:=by omega
  generalize p / 2 ^ i % 2=u at *;generalize q / 2 ^ i % 2=v at *;clear hst htb b1 b2 b3 hg aw1 aw2 c1 w1 w2 hlb hob;repeat' first|refine zd ?_|refine zc ?_|((first|refine zf ?_|refine zk ?_|refine regA ?_|refine drA (id:=7) 12 true [0,0,0,6,14,0,0,96,224,480,1022,2046,4095,8191] ?_|refine drA (id:=8) 8 false [0,0,0,7,15,31,31,63,255] ?_|fail);conv=>whnf)|exact abA hb|((first|refine⟨_,s1,?_⟩|refine⟨_,s2,?_⟩|refine⟨_,g1,?_⟩|refine⟨_,g2,?_⟩|refine And.intro ⟨gu,by show i+1≤_;unfold maxLen;omega,by show (i+1) * 8≤_;omega⟩ ?_|fail);conv=>whnf)|(refine zso rfl (fun hb=>?_) (fun hb=>?_))|((first|refine zsq ?_|refine andA ?_|fail);conv=>whnf)|fail
  exact⟨i+1,hil,by omega,impA⟩
 ·obtain rfl:i=24:=by omega
  have f1:AV.x (.d (zR X))=.x (.d (.s 1 (((addI p q 24).map iPV).take 24))):=by rw [hX,List.take_of_length_le (by simp [hxl])];rfl
  have f2:24≤((addI p q 24).map iPV).length:=by rw [hX,List.length_map,hxl];exact Nat.le_refl _
  refine zaq (Imp.freeze 10 (fr':=[(11,iv .i64 24),(10,sl X),(9,.x (.b 9 0)),(8,iv .i64 q),(7,iv .i64 p)]) (σ':=[(9,.box [iC s,iC t])]) rfl
   ⟨⟨_,rfl,.inl rfl⟩,⟨_,rfl,.inr ⟨_,rfl,f2,f1⟩⟩,⟨_,rfl,.inl rfl⟩,⟨_,rfl,.inl rfl⟩,⟨_,rfl,.inl rfl⟩,trivial⟩ ⟨rfl,trivial⟩ rfl rfl) ?_
  have hlm:(l.map fun n=>[PV.v (.int .i64 n)]).length=24:=by rw [List.length_map,hll]
  have hcf:(bif ((0:Int) != 0) then true else (((l.map fun n=>[PV.v (.int .i64 n)]).length:Int) != 24))=false:=by rw [hlm];rfl
  clear hb0 hb1 f1 f2;repeat' first|((first|refine zkA hTt hMix (id:=8) 8 [1,2] [⟨0,false,false,[1,2],[]⟩,⟨3,false,false,[],[4,5,6,7]⟩] [0,0,0,7,15,31,31,63,255] (by kernel_rfl) rfl (by kernel_rfl) (by kernel_rfl) (by kernel_rfl) ?_|refine LateGo.mk ⟨_,rfl,?_⟩|fail);conv=>whnf)|refine zd ?_|refine zc ?_|((first|refine zf ?_|refine zk ?_|refine regA ?_|refine zsn (c1) ?_|refine zsn (hst) ?_|fail);conv=>whnf)|(refine za rfl (zM hcf) (fun _=>?_))|(refine zsv rfl ?_)|((refine andA ?_);conv=>whnf)|fail
  refine zJ (fun i:Nat=>[(16,iv .i64 i),(15,iv .i64 ((2:Int) ^ i)),(14,iv .i64 (sumB l i)),(12,sl l),(10,sl X),(9,.x (.b 9 0)),(8,iv .i64 q),(7,iv .i64 p)])
   (fun i=>[(9,.box [iC s,iC t])]) (fun i=>i≤24) (fun i=>24 - i) 0 (Nat.zero_le _) impA ?_
  intro i hi;rcases Nat.lt_or_ge i 24 with hil|hil
  ·have hel:(l.map fun n=>[PV.v (.int .i64 n)])[((i:Int)).toNat]?=some [PV.v (.int .i64 (l.getD i 0))]:=by
    rw [Int.toNat_natCast,List.getElem?_map,List.getD_eq_getElem?_getD,List.getElem?_eq_getElem (by omega)];rfl
   have hz:(1:Int)≤2 ^ i∧(2:Int) ^ i≤8388608:=by
    have h2:(2:Nat) ^ i≤2 ^ 23:=Nat.pow_le_pow_right (by decide) (by omega);have h3:0 < (2:Nat) ^ i:=Nat.pow_pos (by decide);have e:((2:Int) ^ i)=((2 ^ i:Nat):Int):=by push_cast;rfl
    omega
   have hv:=sumB_lt hlb i;have hbit:isBit (l.getD i 0):=hlb _ (by rw [List.getD_eq_getElem?_getD,List.getElem?_eq_getElem (show i < l.length by omega)];exact List.getElem_mem _);have hs1:sumB l (i+1)=sumB l i+l.getD i 0 * 2 ^ i:=rfl;have hp1:(2:Int) ^ (i+1)=2 * 2 ^ i:=by rw [Int.pow_succ];omega
   have hmb:0≤l.getD i 0 * 2 ^ i∧l.getD i 0 * 2 ^ i≤8388608:=by rcases hbit with e|e <;> rw [e] <;> omega
   generalize hv2:sumB l (i+1)=v2 at *;generalize hz2:(2:Int) ^ (i+1)=z2 at *;generalize sumB l i=v at *;generalize l.getD i 0=y at *;generalize (2:Int) ^ i=z at *;generalize hyz:y * z=yz at *;have hw1:IntKind.i64.wrap (y * z)=yz:=by rw [hyz];exact zg (by omega)
   clear hst htb b1 b2 b3 hg aw1 aw2 c1 w1 w2 hlb hob;repeat' first|refine zd ?_|refine zc ?_|((first|refine zf ?_|refine zk ?_|refine regA ?_|refine drA (id:=16) 10 true [0,0,2,0,8,31,63,127,127,255,1023] ?_|fail);conv=>whnf)|exact abA hb|((first|refine⟨_,hw1,?_⟩|refine⟨_,ze ⟨by omega,hel⟩,?_⟩|fail);conv=>whnf)|(refine zso rfl (fun hb=>?_) (fun hb=>?_))|((first|refine zsq ?_|refine andA ?_|fail);conv=>whnf)|fail
   exact⟨i+1,hil,by omega,Imp.forget ⟨rfl,congrArg (fun n=>some (iv .i64 n)) (by rw [hz2,hp1]),congrArg (fun n=>some (iv .i64 n)) (by rw [hv2,hs1]),rfl,rfl,rfl,rfl,rfl,trivial⟩ ⟨rfl,trivial⟩ rfl⟩
  ·obtain rfl:i=24:=by omega
   rw [hW];clear hlb hob hlm;repeat' first|(with_reducible refine Stp.at20 ?_)|((first|refine zkA hTt hMix (id:=16) 10 [1,2,3,4] [⟨0,false,false,[1,2,3,4],[]⟩,⟨5,false,false,[],[6,7,8,9]⟩] [0,0,2,0,8,31,63,127,127,255,1023] (by kernel_rfl) rfl (by kernel_rfl) (by kernel_rfl) (by kernel_rfl) ?_|refine LateGo.mk ⟨_,rfl,?_⟩|fail);conv=>whnf)|refine zd ?_|((first|refine zk ?_|refine regA ?_|refine zsn (c1) ?_|refine zsn (htb) ?_|refine zsn (w1) ?_|refine zsn (w2) ?_|refine⟨_,rfl,Nat.le_refl 1,?_⟩|fail);conv=>whnf)|(refine zsv rfl ?_)|((refine andA ?_);conv=>whnf)|fail
   unfold Stp;refine zaq (Imp.freeze 100 (fr':=[(18,sl (st22 p q)),(17,tableAV [[!decide (wr=S)]]),(14,iv .i64 wr),(13,iv .i64 0)]) (σ':=[]) rfl
    ⟨⟨_,rfl,.inr ⟨_,rfl,Nat.le_refl 22,rfl⟩⟩,⟨_,rfl,.inl rfl⟩,⟨_,rfl,.inl rfl⟩,⟨_,rfl,.inl rfl⟩,trivial⟩ trivial rfl rfl) ?_
   by_cases hm:wr=S
   ·subst hm;rw [(xor_zero hww hww).2 rfl] at b3;rw [decide_eq_true (rfl:wr=wr)];have b4:=first_none (sA p q) hg 10 (by decide);repeat' first|refine zd ?_|((first|refine zf ?_|refine zi ?_|refine regA ?_|fail);conv=>whnf)|(refine za rfl (fun _=>?_) (zaf rfl))|(refine za rfl (zM rfl) (fun _=>?_))|((first|refine zsn ((b1).leA (by repeat' (first|exact trivial|exact LeAV1.refl _|exact LeAV1.nil _|refine And.intro ?_ ?_))) ?_|refine zsn (b2) ?_|refine zsn (b3) ?_|refine zsn (b4) ?_|refine zsp (aw1) ?_|refine zsp (aw2) ?_|refine⟨_,ze ⟨Int.le_refl 0,rfl⟩,?_⟩|refine andA ?_|fail);conv=>whnf)|fail
    rfl
   ·have hne:xorI wr S≠0:=fun h=>hm ((xor_zero hww hsw2).1 h)
    have hxw:zP (xorI wr S):=xor_word hww hsw2;have hback:=xor_back hww hsw2;have hfo:FltOK (fM (xorI wr S)):=by
     unfold zP at hxw;exact⟨⟨show (0:Int)≤1 by decide,show (1:Int)≤1000 by decide⟩,⟨show (0:Int)≤21 by decide,show (21:Int)≤127 by decide⟩,⟨by show 1≤xorI wr S;omega,hxw.2⟩⟩
    have b5:=first_stop (sA p q) hg (fM (xorI wr S)) hfo 10 (by decide) 1 (by decide) (fun i hi=>by
      obtain rfl:i=0:=by omega
      rw [m1 _ (fun f h=>by cases h;show (1:Int)≠0;decide),m1 none (fun f h=>by cases h)])
     (by rw [m2f,m2n,hS,hback];exact fun h=>hm (by injection h with _ _ _ h;injection h))
     (by rw [m2n,m1 none (fun f h=>by cases h)];show (1:Int) < 2;decide) (by rw [m1 none (fun f h=>by cases h)];exact⟨show (0:Int)≤1 by decide,show (1:Int)≤127 by decide⟩) ⟨7,21,0,2⟩
     (by rw [m1 none (fun f h=>by cases h)];exact dec_enc (by decide) (by decide) (by decide))
    rw [m2n,m1 none (fun f h=>by cases h)] at b5;have b6:=trun_fn (sA p q) hg (fM (xorI wr S)) hfo 10 (by decide);rw [m10f,hS,hback] at b6;rw [decide_eq_false hm];have b7:=ztM [wr] [wr];rw [decide_eq_true rfl] at b7;have hbne:(xorI wr S == 0)=false:=by simpa using hne
    generalize xorI wr S=M at *;rw [hS] at b5;repeat' first|(with_reducible refine Stp.at29 ?_)|refine zd ?_|((first|refine zf ?_|refine regA ?_|fail);conv=>whnf)|(refine za rfl (zM hbne) (fun _=>?_))|(refine za rfl (zM rfl) (fun _=>?_))|((first|refine zsn ((b1).leA (by repeat' (first|exact trivial|exact LeAV1.refl _|exact LeAV1.nil _|refine And.intro ?_ ?_))) ?_|refine zsn (b2) ?_|refine zsn (b3) ?_|refine⟨_,ze ⟨Int.le_refl 0,rfl⟩,?_⟩|refine andA ?_|fail);conv=>whnf)|fail
    unfold Stp;refine zaq (Imp.freeze 185 (fr':=[(27,fltsAV [fM M]),(19,.x (.b 19 0)),(17,tableAV [[!false]]),(14,iv .i64 wr)]) (σ':=[(19,.box [.d (zR (sA p q).store),.d (zR (sA p q).tape),iC (sA p q).taken,.d (zR (sA p q).printed),iC (sA p q).time,iC (sA p q).at_,iC (sA p q).done,iC (sA p q).why])]) rfl
     ⟨⟨_,rfl,.inr ⟨_,rfl,Nat.le_refl 1,rfl⟩⟩,⟨_,rfl,.inl rfl⟩,⟨_,rfl,.inl rfl⟩,⟨_,rfl,.inl rfl⟩,trivial⟩ ⟨rfl,trivial⟩ rfl rfl) ?_
    repeat' first|refine zd ?_|((first|refine zi ?_|refine regA ?_|refine zsn (b5) ?_|refine zsn (b6) ?_|refine zsp (b7) ?_|refine zsp (aw1) ?_|refine zsp (aw2) ?_|refine⟨_,ze ⟨Int.le_refl 0,rfl⟩,?_⟩|refine andA ?_|fail);conv=>whnf)|fail
    rfl
end Go.Proofs.YtpfiejadigkgaaaGreatDoor
end
