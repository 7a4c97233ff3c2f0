/- Functions, as they run on data. No condition. -/
import Derived.Test.YtdcbankajhnepaaGreatAmFn2
set_option linter.unusedVariables false
set_option maxRecDepth 100000
namespace Go.Proofs.YtdcbankajhnepaaGreat.Am
open Go.AM Go.AM.P Go.Proofs Go.Shelf
noncomputable def E101:Env:={ tab:=tab,sig:=[(172,s172)],live:=[(0,[0,1,5],[])] }
theorem r101 (N:Nat) (a0:List (List T7)) (a1:List (List T7)):runF N E101 Tryz.f101 [.imm false Y44,.imm false Y44] [.imm false .bool] (a0,a1,()) = p_laws_eqRowSS N a0 a1:=by kernel_rfl
noncomputable def s101:FSpec:=⟨[.imm false Y44,.imm false Y44],[.imm false .bool],fun x=>S_laws_eqRowSS x.1 x.2.1,true⟩
theorem ok101:FnS Tryz.prog fa 101 s101:=fnAll (E:=E101) mixed tabOk ⟨ok172,trivial⟩ Tryz.func101 (by kernel_rfl) rfl fun x y h=>let ⟨N,hN⟩:=lim_some h; ⟨N,(r101 N x.1 x.2.1).trans hN⟩
noncomputable def E45:Env:={ tab:=tab,sig:=[(101,s101)] }
theorem r45 (N:Nat) (a0:T8) (a1:T8):runF N E45 Tryz.f45 [.imm true Y53,.imm true Y53] [.imm false .bool] (a0,a1,()) = p_laws_eqTable N a0 a1:=by kernel_rfl
noncomputable def s45:FSpec:=⟨[.imm true Y53,.imm true Y53],[.imm false .bool],fun x=>S_laws_eqTable x.1 x.2.1,true⟩
theorem ok45:FnS Tryz.prog fa 45 s45:=fnAll (E:=E45) mixed tabOk ⟨ok101,trivial⟩ Tryz.func45 (by kernel_rfl) rfl fun x y h=>⟨0,(r45 0 x.1 x.2.1).trans h⟩
noncomputable def E297:Env:={ tab:=tab,sig:=[(192,s192),(271,s271),(44,s44),(172,s172)] }
theorem r297 (N:Nat) (a0:T9) (a1:T9):runF N E297 Tryz.f297 [.imm true Y77,.imm true Y77] [.imm false .bool] (a0,a1,()) = p_laws_eqLead N a0 a1:=by kernel_rfl
noncomputable def s297:FSpec:=⟨[.imm true Y77,.imm true Y77],[.imm false .bool],fun x=>S_laws_eqLead x.1 x.2.1,true⟩
theorem ok297:FnS Tryz.prog fa 297 s297:=fnAll (E:=E297) mixed tabOk ⟨ok192,ok271,ok44,ok172,trivial⟩ Tryz.func297 (by kernel_rfl) rfl fun x y h=>⟨0,(r297 0 x.1 x.2.1).trans h⟩
noncomputable def E270:Env:={ tab:=tab,sig:=[(297,s297)],live:=[(0,[0,1,5],[])] }
theorem r270 (N:Nat) (a0:List T9) (a1:List T9):runF N E270 Tryz.f270 [.imm false Y79,.imm false Y79] [.imm false .bool] (a0,a1,()) = p_laws_eqLeadS N a0 a1:=by kernel_rfl
noncomputable def s270:FSpec:=⟨[.imm false Y79,.imm false Y79],[.imm false .bool],fun x=>S_laws_eqLeadS x.1 x.2.1,true⟩
theorem ok270:FnS Tryz.prog fa 270 s270:=fnAll (E:=E270) mixed tabOk ⟨ok297,trivial⟩ Tryz.func270 (by kernel_rfl) rfl fun x y h=>let ⟨N,hN⟩:=lim_some h; ⟨N,(r270 N x.1 x.2.1).trans hN⟩
noncomputable def E209:Env:={ tab:=tab,sig:=[(45,s45),(270,s270)] }
theorem r209 (N:Nat) (a0:T10) (a1:T10):runF N E209 Tryz.f209 [.imm true Y85,.imm true Y85] [.imm false .bool] (a0,a1,()) = p_laws_eqReplica N a0 a1:=by kernel_rfl
noncomputable def s209:FSpec:=⟨[.imm true Y85,.imm true Y85],[.imm false .bool],fun x=>S_laws_eqReplica x.1 x.2.1,true⟩
theorem ok209:FnS Tryz.prog fa 209 s209:=fnAll (E:=E209) mixed tabOk ⟨ok45,ok270,trivial⟩ Tryz.func209 (by kernel_rfl) rfl fun x y h=>⟨0,(r209 0 x.1 x.2.1).trans h⟩
noncomputable def E136:Env:={ tab:=tab,sig:=[(209,s209)],live:=[(0,[0,1,5],[])] }
theorem r136 (N:Nat) (a0:List T10) (a1:List T10):runF N E136 Tryz.f136 [.imm false Y87,.imm false Y87] [.imm false .bool] (a0,a1,()) = p_laws_eqReplicaS N a0 a1:=by kernel_rfl
noncomputable def s136:FSpec:=⟨[.imm false Y87,.imm false Y87],[.imm false .bool],fun x=>S_laws_eqReplicaS x.1 x.2.1,true⟩
theorem ok136:FnS Tryz.prog fa 136 s136:=fnAll (E:=E136) mixed tabOk ⟨ok209,trivial⟩ Tryz.func136 (by kernel_rfl) rfl fun x y h=>let ⟨N,hN⟩:=lim_some h; ⟨N,(r136 N x.1 x.2.1).trans hN⟩
noncomputable def E210:Env:={ tab:=tab,sig:=[(192,s192),(271,s271)] }
theorem r210 (N:Nat) (a0:T11) (a1:T11):runF N E210 Tryz.f210 [.imm true Y59,.imm true Y59] [.imm false .bool] (a0,a1,()) = p_laws_eqMsg N a0 a1:=by kernel_rfl
noncomputable def s210:FSpec:=⟨[.imm true Y59,.imm true Y59],[.imm false .bool],fun x=>S_laws_eqMsg x.1 x.2.1,true⟩
theorem ok210:FnS Tryz.prog fa 210 s210:=fnAll (E:=E210) mixed tabOk ⟨ok192,ok271,trivial⟩ Tryz.func210 (by kernel_rfl) rfl fun x y h=>⟨0,(r210 0 x.1 x.2.1).trans h⟩
noncomputable def E137:Env:={ tab:=tab,sig:=[(210,s210)],live:=[(0,[0,1,5],[])] }
theorem r137 (N:Nat) (a0:List T11) (a1:List T11):runF N E137 Tryz.f137 [.imm false Y61,.imm false Y61] [.imm false .bool] (a0,a1,()) = p_laws_eqMsgS N a0 a1:=by kernel_rfl
noncomputable def s137:FSpec:=⟨[.imm false Y61,.imm false Y61],[.imm false .bool],fun x=>S_laws_eqMsgS x.1 x.2.1,true⟩
theorem ok137:FnS Tryz.prog fa 137 s137:=fnAll (E:=E137) mixed tabOk ⟨ok210,trivial⟩ Tryz.func137 (by kernel_rfl) rfl fun x y h=>let ⟨N,hN⟩:=lim_some h; ⟨N,(r137 N x.1 x.2.1).trans hN⟩
noncomputable def E211:Env:={ tab:=tab,sig:=[(192,s192)] }
theorem r211 (N:Nat) (a0:T12) (a1:T12):runF N E211 Tryz.f211 [.imm true Y29,.imm true Y29] [.imm false .bool] (a0,a1,()) = p_laws_eqAsked N a0 a1:=by kernel_rfl
noncomputable def s211:FSpec:=⟨[.imm true Y29,.imm true Y29],[.imm false .bool],fun x=>S_laws_eqAsked x.1 x.2.1,true⟩
theorem ok211:FnS Tryz.prog fa 211 s211:=fnAll (E:=E211) mixed tabOk ⟨ok192,trivial⟩ Tryz.func211 (by kernel_rfl) rfl fun x y h=>⟨0,(r211 0 x.1 x.2.1).trans h⟩
noncomputable def E138:Env:={ tab:=tab,sig:=[(211,s211)],live:=[(0,[0,1,5],[])] }
theorem r138 (N:Nat) (a0:List T12) (a1:List T12):runF N E138 Tryz.f138 [.imm false Y31,.imm false Y31] [.imm false .bool] (a0,a1,()) = p_laws_eqAskedS N a0 a1:=by kernel_rfl
noncomputable def s138:FSpec:=⟨[.imm false Y31,.imm false Y31],[.imm false .bool],fun x=>S_laws_eqAskedS x.1 x.2.1,true⟩
theorem ok138:FnS Tryz.prog fa 138 s138:=fnAll (E:=E138) mixed tabOk ⟨ok211,trivial⟩ Tryz.func138 (by kernel_rfl) rfl fun x y h=>let ⟨N,hN⟩:=lim_some h; ⟨N,(r138 N x.1 x.2.1).trans hN⟩
noncomputable def E65:Env:={ tab:=tab,sig:=[(136,s136),(137,s137),(138,s138)] }
theorem r65 (N:Nat) (a0:T13) (a1:T13):runF N E65 Tryz.f65 [.imm true Y89,.imm true Y89] [.imm false .bool] (a0,a1,()) = p_laws_eqNet N a0 a1:=by kernel_rfl
noncomputable def s65:FSpec:=⟨[.imm true Y89,.imm true Y89],[.imm false .bool],fun x=>S_laws_eqNet x.1 x.2.1,true⟩
theorem ok65:FnS Tryz.prog fa 65 s65:=fnAll (E:=E65) mixed tabOk ⟨ok136,ok137,ok138,trivial⟩ Tryz.func65 (by kernel_rfl) rfl fun x y h=>⟨0,(r65 0 x.1 x.2.1).trans h⟩
noncomputable def E47:Env:={ tab:=tab,live:=[(0,[0,1,5],[])] }
theorem r47 (N:Nat) (a0:List Int) (a1:Int):runF N E47 Tryz.f47 [.mut false Y5,.imm false Y1] [.imm false Y1] (a0,a1,()) = p_laws_markIntS N a0 a1:=by kernel_rfl
noncomputable def s47:FSpec:=⟨[.mut false Y5,.imm false Y1],[.imm false Y1],fun x=>S_laws_markIntS x.1 x.2.1,true⟩
theorem ok47:FnS Tryz.prog fa 47 s47:=fnAll (E:=E47) mixed tabOk trivial Tryz.func47 (by kernel_rfl) rfl fun x y h=>let ⟨N,hN⟩:=lim_some h; ⟨N,(r47 N x.1 x.2.1).trans hN⟩
noncomputable def E167:Env:={ tab:=tab,sig:=[(47,s47)],live:=[(0,[0,1,5],[])] }
theorem r167 (N:Nat) (a0:List T7) (a1:Int):runF N E167 Tryz.f167 [.mut false Y41,.imm false Y1] [.imm false Y1] (a0,a1,()) = p_laws_markRowS N a0 a1:=by kernel_rfl
noncomputable def s167:FSpec:=⟨[.mut false Y41,.imm false Y1],[.imm false Y1],fun x=>S_laws_markRowS x.1 x.2.1,true⟩
theorem ok167:FnS Tryz.prog fa 167 s167:=fnAll (E:=E167) mixed tabOk ⟨ok47,trivial⟩ Tryz.func167 (by kernel_rfl) rfl fun x y h=>let ⟨N,hN⟩:=lim_some h; ⟨N,(r167 N x.1 x.2.1).trans hN⟩
noncomputable def E94:Env:={ tab:=tab,sig:=[(167,s167)],live:=[(0,[0,1,5],[])] }
theorem r94 (N:Nat) (a0:List (List T7)) (a1:Int):runF N E94 Tryz.f94 [.mut false Y44,.imm false Y1] [.imm false Y1] (a0,a1,()) = p_laws_markRowSS N a0 a1:=by kernel_rfl
noncomputable def s94:FSpec:=⟨[.mut false Y44,.imm false Y1],[.imm false Y1],fun x=>S_laws_markRowSS x.1 x.2.1,true⟩
theorem ok94:FnS Tryz.prog fa 94 s94:=fnAll (E:=E94) mixed tabOk ⟨ok167,trivial⟩ Tryz.func94 (by kernel_rfl) rfl fun x y h=>let ⟨N,hN⟩:=lim_some h; ⟨N,(r94 N x.1 x.2.1).trans hN⟩
noncomputable def E212:Env:={ tab:=tab,sig:=[(47,s47),(167,s167)],live:=[(0,[0,1,5],[])] }
theorem r212 (N:Nat) (a0:List T9) (a1:Int):runF N E212 Tryz.f212 [.mut false Y79,.imm false Y1] [.imm false Y1] (a0,a1,()) = p_laws_markLeadS N a0 a1:=by kernel_rfl
noncomputable def s212:FSpec:=⟨[.mut false Y79,.imm false Y1],[.imm false Y1],fun x=>S_laws_markLeadS x.1 x.2.1,true⟩
theorem ok212:FnS Tryz.prog fa 212 s212:=fnAll (E:=E212) mixed tabOk ⟨ok47,ok167,trivial⟩ Tryz.func212 (by kernel_rfl) rfl fun x y h=>let ⟨N,hN⟩:=lim_some h; ⟨N,(r212 N x.1 x.2.1).trans hN⟩
noncomputable def E139:Env:={ tab:=tab,sig:=[(94,s94),(212,s212)],live:=[(0,[0,1,5],[])] }
theorem r139 (N:Nat) (a0:List T10) (a1:Int):runF N E139 Tryz.f139 [.mut false Y87,.imm false Y1] [.imm false Y1] (a0,a1,()) = p_laws_markReplicaS N a0 a1:=by kernel_rfl
noncomputable def s139:FSpec:=⟨[.mut false Y87,.imm false Y1],[.imm false Y1],fun x=>S_laws_markReplicaS x.1 x.2.1,true⟩
theorem ok139:FnS Tryz.prog fa 139 s139:=fnAll (E:=E139) mixed tabOk ⟨ok94,ok212,trivial⟩ Tryz.func139 (by kernel_rfl) rfl fun x y h=>let ⟨N,hN⟩:=lim_some h; ⟨N,(r139 N x.1 x.2.1).trans hN⟩
noncomputable def E140:Env:={ tab:=tab,sig:=[(47,s47)],live:=[(0,[0,1,5],[])] }
theorem r140 (N:Nat) (a0:List T11) (a1:Int):runF N E140 Tryz.f140 [.mut false Y61,.imm false Y1] [.imm false Y1] (a0,a1,()) = p_laws_markMsgS N a0 a1:=by kernel_rfl
noncomputable def s140:FSpec:=⟨[.mut false Y61,.imm false Y1],[.imm false Y1],fun x=>S_laws_markMsgS x.1 x.2.1,true⟩
theorem ok140:FnS Tryz.prog fa 140 s140:=fnAll (E:=E140) mixed tabOk ⟨ok47,trivial⟩ Tryz.func140 (by kernel_rfl) rfl fun x y h=>let ⟨N,hN⟩:=lim_some h; ⟨N,(r140 N x.1 x.2.1).trans hN⟩
noncomputable def E141:Env:={ tab:=tab,live:=[(0,[0,1,5],[])] }
theorem r141 (N:Nat) (a0:List T12) (a1:Int):runF N E141 Tryz.f141 [.mut false Y31,.imm false Y1] [.imm false Y1] (a0,a1,()) = p_laws_markAskedS N a0 a1:=by kernel_rfl
noncomputable def s141:FSpec:=⟨[.mut false Y31,.imm false Y1],[.imm false Y1],fun x=>S_laws_markAskedS x.1 x.2.1,true⟩
theorem ok141:FnS Tryz.prog fa 141 s141:=fnAll (E:=E141) mixed tabOk trivial Tryz.func141 (by kernel_rfl) rfl fun x y h=>let ⟨N,hN⟩:=lim_some h; ⟨N,(r141 N x.1 x.2.1).trans hN⟩
noncomputable def E66:Env:={ tab:=tab,sig:=[(139,s139),(140,s140),(141,s141)] }
theorem r66 (N:Nat) (a0:T13) (a1:Int):runF N E66 Tryz.f66 [.mut true Y89,.imm false Y1] [.imm false Y1] (a0,a1,()) = p_laws_markNet N a0 a1:=by kernel_rfl
noncomputable def s66:FSpec:=⟨[.mut true Y89,.imm false Y1],[.imm false Y1],fun x=>S_laws_markNet x.1 x.2.1,true⟩
theorem ok66:FnS Tryz.prog fa 66 s66:=fnAll (E:=E66) mixed tabOk ⟨ok139,ok140,ok141,trivial⟩ Tryz.func66 (by kernel_rfl) rfl fun x y h=>⟨0,(r66 0 x.1 x.2.1).trans h⟩
noncomputable def E48:Env:={ tab:=tab,live:=[(0,[0,1,5],[])] }
theorem r48 (N:Nat) (a0:List Int) (a1:Int):runF N E48 Tryz.f48 [.imm false Y5,.imm false Y1] [.imm false Y1] (a0,a1,()) = p_laws_heldIntS N a0 a1:=by kernel_rfl
noncomputable def s48:FSpec:=⟨[.imm false Y5,.imm false Y1],[.imm false Y1],fun x=>S_laws_heldIntS x.1 x.2.1,true⟩
theorem ok48:FnS Tryz.prog fa 48 s48:=fnAll (E:=E48) mixed tabOk trivial Tryz.func48 (by kernel_rfl) rfl fun x y h=>let ⟨N,hN⟩:=lim_some h; ⟨N,(r48 N x.1 x.2.1).trans hN⟩
noncomputable def E8:Env:={ tab:=tab,sig:=[(61,s61),(63,s63),(62,s62),(64,s64),(44,s44),(65,s65),(66,s66),(47,s47),(48,s48)] }
theorem r8 (N:Nat) (a0:T13):runF N E8 Tryz.f8 [.imm true Y88] [.imm false .bool] (a0,()) = p_laws_FnExactCommonMarks N a0:=by kernel_rfl
theorem env8:EnvOk Tryz.prog (fa.at true) E8:=envOk mixed tabOk ⟨ok61,ok63,ok62,ok64,ok44,ok65,ok66,ok47,ok48,trivial⟩ trivial trivial
end Go.Proofs.YtdcbankajhnepaaGreat.Am
