/- Functions, as they run on data. No condition. -/
import Derived.Test.YtdcbankajhnepaaGreatAmTab
import Derived.Test.YtdcbankajhnepaaGreatAmQ
set_option linter.unusedVariables false
set_option maxRecDepth 100000
namespace Go.Proofs.YtdcbankajhnepaaGreat.Am
open Go.AM Go.AM.P Go.Proofs Go.Shelf
noncomputable def E113:Env:={ tab:=tab }
theorem r113 (N:Nat) (a0:List Int) (a1:Int):runF N E113 Tryz.f113 [.imm false Y5,.imm false Y1] [.imm false Y1] (a0,a1,()) = p_laws_szIntS N a0 a1:=by kernel_rfl
noncomputable def s113:FSpec:=⟨[.imm false Y5,.imm false Y1],[.imm false Y1],fun x=>S_laws_szIntS x.1 x.2.1,true⟩
theorem ok113:FnS Tryz.prog fa 113 s113:=fnAll (E:=E113) mixed tabOk trivial Tryz.func113 (by kernel_rfl) rfl fun x y h=>⟨0,(r113 0 x.1 x.2.1).trans h⟩
noncomputable def E257:Env:={ tab:=tab,sig:=[(113,s113)] }
theorem r257 (N:Nat) (a0:T6) (a1:Int):runF N E257 Tryz.f257 [.imm true Y15,.imm false Y1] [.imm false Y1] (a0,a1,()) = p_laws_szAttr N a0 a1:=by kernel_rfl
noncomputable def s257:FSpec:=⟨[.imm true Y15,.imm false Y1],[.imm false Y1],fun x=>S_laws_szAttr x.1 x.2.1,true⟩
theorem ok257:FnS Tryz.prog fa 257 s257:=fnAll (E:=E257) mixed tabOk ⟨ok113,trivial⟩ Tryz.func257 (by kernel_rfl) rfl fun x y h=>⟨0,(r257 0 x.1 x.2.1).trans h⟩
noncomputable def E227:Env:={ tab:=tab,sig:=[(257,s257)] }
theorem r227 (N:Nat) (a0:T7) (a1:Int):runF N E227 Tryz.f227 [.imm true Y40,.imm false Y1] [.imm false Y1] (a0,a1,()) = p_laws_szRow N a0 a1:=by kernel_rfl
noncomputable def s227:FSpec:=⟨[.imm true Y40,.imm false Y1],[.imm false Y1],fun x=>S_laws_szRow x.1 x.2.1,true⟩
theorem ok227:FnS Tryz.prog fa 227 s227:=fnAll (E:=E227) mixed tabOk ⟨ok257,trivial⟩ Tryz.func227 (by kernel_rfl) rfl fun x y h=>⟨0,(r227 0 x.1 x.2.1).trans h⟩
noncomputable def E168:Env:={ tab:=tab,sig:=[(227,s227)],live:=[(0,[0,1,5],[])] }
theorem r168 (N:Nat) (a0:List T7) (a1:Int):runF N E168 Tryz.f168 [.imm false Y42,.imm false Y1] [.imm false Y1] (a0,a1,()) = p_laws_szRowS N a0 a1:=by kernel_rfl
noncomputable def s168:FSpec:=⟨[.imm false Y42,.imm false Y1],[.imm false Y1],fun x=>S_laws_szRowS x.1 x.2.1,true⟩
theorem ok168:FnS Tryz.prog fa 168 s168:=fnAll (E:=E168) mixed tabOk ⟨ok227,trivial⟩ Tryz.func168 (by kernel_rfl) rfl fun x y h=>let ⟨N,hN⟩:=lim_some h; ⟨N,(r168 N x.1 x.2.1).trans hN⟩
noncomputable def E97:Env:={ tab:=tab,sig:=[(168,s168)],live:=[(0,[0,1,5],[])] }
theorem r97 (N:Nat) (a0:List (List T7)) (a1:Int):runF N E97 Tryz.f97 [.imm false Y45,.imm false Y1] [.imm false Y1] (a0,a1,()) = p_laws_szRowSS N a0 a1:=by kernel_rfl
noncomputable def s97:FSpec:=⟨[.imm false Y45,.imm false Y1],[.imm false Y1],fun x=>S_laws_szRowSS x.1 x.2.1,true⟩
theorem ok97:FnS Tryz.prog fa 97 s97:=fnAll (E:=E97) mixed tabOk ⟨ok168,trivial⟩ Tryz.func97 (by kernel_rfl) rfl fun x y h=>let ⟨N,hN⟩:=lim_some h; ⟨N,(r97 N x.1 x.2.1).trans hN⟩
noncomputable def E40:Env:={ tab:=tab,sig:=[(97,s97)] }
theorem r40 (N:Nat) (a0:T8) (a1:Int):runF N E40 Tryz.f40 [.imm true Y54,.imm false Y1] [.imm false Y1] (a0,a1,()) = p_laws_szTable N a0 a1:=by kernel_rfl
noncomputable def s40:FSpec:=⟨[.imm true Y54,.imm false Y1],[.imm false Y1],fun x=>S_laws_szTable x.1 x.2.1,true⟩
theorem ok40:FnS Tryz.prog fa 40 s40:=fnAll (E:=E40) mixed tabOk ⟨ok97,trivial⟩ Tryz.func40 (by kernel_rfl) rfl fun x y h=>⟨0,(r40 0 x.1 x.2.1).trans h⟩
noncomputable def E292:Env:={ tab:=tab,sig:=[(257,s257),(113,s113),(168,s168)] }
theorem r292 (N:Nat) (a0:T9) (a1:Int):runF N E292 Tryz.f292 [.imm true Y76,.imm false Y1] [.imm false Y1] (a0,a1,()) = p_laws_szLead N a0 a1:=by kernel_rfl
noncomputable def s292:FSpec:=⟨[.imm true Y76,.imm false Y1],[.imm false Y1],fun x=>S_laws_szLead x.1 x.2.1,true⟩
theorem ok292:FnS Tryz.prog fa 292 s292:=fnAll (E:=E292) mixed tabOk ⟨ok257,ok113,ok168,trivial⟩ Tryz.func292 (by kernel_rfl) rfl fun x y h=>⟨0,(r292 0 x.1 x.2.1).trans h⟩
noncomputable def E256:Env:={ tab:=tab,sig:=[(292,s292)],live:=[(0,[0,1,5],[])] }
theorem r256 (N:Nat) (a0:List T9) (a1:Int):runF N E256 Tryz.f256 [.imm false Y78,.imm false Y1] [.imm false Y1] (a0,a1,()) = p_laws_szLeadS N a0 a1:=by kernel_rfl
noncomputable def s256:FSpec:=⟨[.imm false Y78,.imm false Y1],[.imm false Y1],fun x=>S_laws_szLeadS x.1 x.2.1,true⟩
theorem ok256:FnS Tryz.prog fa 256 s256:=fnAll (E:=E256) mixed tabOk ⟨ok292,trivial⟩ Tryz.func256 (by kernel_rfl) rfl fun x y h=>let ⟨N,hN⟩:=lim_some h; ⟨N,(r256 N x.1 x.2.1).trans hN⟩
noncomputable def E194:Env:={ tab:=tab,sig:=[(40,s40),(256,s256)] }
theorem r194 (N:Nat) (a0:T10) (a1:Int):runF N E194 Tryz.f194 [.imm true Y84,.imm false Y1] [.imm false Y1] (a0,a1,()) = p_laws_szReplica N a0 a1:=by kernel_rfl
noncomputable def s194:FSpec:=⟨[.imm true Y84,.imm false Y1],[.imm false Y1],fun x=>S_laws_szReplica x.1 x.2.1,true⟩
theorem ok194:FnS Tryz.prog fa 194 s194:=fnAll (E:=E194) mixed tabOk ⟨ok40,ok256,trivial⟩ Tryz.func194 (by kernel_rfl) rfl fun x y h=>⟨0,(r194 0 x.1 x.2.1).trans h⟩
noncomputable def E126:Env:={ tab:=tab,sig:=[(194,s194)],live:=[(0,[0,1,5],[])] }
theorem r126 (N:Nat) (a0:List T10) (a1:Int):runF N E126 Tryz.f126 [.imm false Y86,.imm false Y1] [.imm false Y1] (a0,a1,()) = p_laws_szReplicaS N a0 a1:=by kernel_rfl
noncomputable def s126:FSpec:=⟨[.imm false Y86,.imm false Y1],[.imm false Y1],fun x=>S_laws_szReplicaS x.1 x.2.1,true⟩
theorem ok126:FnS Tryz.prog fa 126 s126:=fnAll (E:=E126) mixed tabOk ⟨ok194,trivial⟩ Tryz.func126 (by kernel_rfl) rfl fun x y h=>let ⟨N,hN⟩:=lim_some h; ⟨N,(r126 N x.1 x.2.1).trans hN⟩
noncomputable def E195:Env:={ tab:=tab,sig:=[(257,s257)] }
theorem r195 (N:Nat) (a0:T11) (a1:Int):runF N E195 Tryz.f195 [.imm true Y59,.imm false Y1] [.imm false Y1] (a0,a1,()) = p_laws_szMsg N a0 a1:=by kernel_rfl
noncomputable def s195:FSpec:=⟨[.imm true Y59,.imm false Y1],[.imm false Y1],fun x=>S_laws_szMsg x.1 x.2.1,true⟩
theorem ok195:FnS Tryz.prog fa 195 s195:=fnAll (E:=E195) mixed tabOk ⟨ok257,trivial⟩ Tryz.func195 (by kernel_rfl) rfl fun x y h=>⟨0,(r195 0 x.1 x.2.1).trans h⟩
noncomputable def E127:Env:={ tab:=tab,sig:=[(195,s195)],live:=[(0,[0,1,5],[])] }
theorem r127 (N:Nat) (a0:List T11) (a1:Int):runF N E127 Tryz.f127 [.imm false Y60,.imm false Y1] [.imm false Y1] (a0,a1,()) = p_laws_szMsgS N a0 a1:=by kernel_rfl
noncomputable def s127:FSpec:=⟨[.imm false Y60,.imm false Y1],[.imm false Y1],fun x=>S_laws_szMsgS x.1 x.2.1,true⟩
theorem ok127:FnS Tryz.prog fa 127 s127:=fnAll (E:=E127) mixed tabOk ⟨ok195,trivial⟩ Tryz.func127 (by kernel_rfl) rfl fun x y h=>let ⟨N,hN⟩:=lim_some h; ⟨N,(r127 N x.1 x.2.1).trans hN⟩
noncomputable def E128:Env:={ tab:=tab }
theorem r128 (N:Nat) (a0:List T12) (a1:Int):runF N E128 Tryz.f128 [.imm false Y30,.imm false Y1] [.imm false Y1] (a0,a1,()) = p_laws_szAskedS N a0 a1:=by kernel_rfl
noncomputable def s128:FSpec:=⟨[.imm false Y30,.imm false Y1],[.imm false Y1],fun x=>S_laws_szAskedS x.1 x.2.1,true⟩
theorem ok128:FnS Tryz.prog fa 128 s128:=fnAll (E:=E128) mixed tabOk trivial Tryz.func128 (by kernel_rfl) rfl fun x y h=>⟨0,(r128 0 x.1 x.2.1).trans h⟩
noncomputable def E61:Env:={ tab:=tab,sig:=[(126,s126),(127,s127),(128,s128)] }
theorem r61 (N:Nat) (a0:T13) (a1:Int):runF N E61 Tryz.f61 [.imm true Y88,.imm false Y1] [.imm false Y1] (a0,a1,()) = p_laws_szNet N a0 a1:=by kernel_rfl
noncomputable def s61:FSpec:=⟨[.imm true Y88,.imm false Y1],[.imm false Y1],fun x=>S_laws_szNet x.1 x.2.1,true⟩
theorem ok61:FnS Tryz.prog fa 61 s61:=fnAll (E:=E61) mixed tabOk ⟨ok126,ok127,ok128,trivial⟩ Tryz.func61 (by kernel_rfl) rfl fun x y h=>⟨0,(r61 0 x.1 x.2.1).trans h⟩
noncomputable def E260:Env:={ tab:=tab }
theorem r260 (N:Nat) (a0:T2):runF N E260 Tryz.f260 [.imm true Y25] [.imm true Y25] (a0,()) = p_laws_toCmd N a0:=by kernel_rfl
noncomputable def s260:FSpec:=⟨[.imm true Y25],[.imm true Y25],fun x=>S_laws_toCmd x.1,true⟩
theorem ok260:FnS Tryz.prog fa 260 s260:=fnAll (E:=E260) mixed tabOk trivial Tryz.func260 (by kernel_rfl) rfl fun x y h=>⟨0,(r260 0 x.1).trans h⟩
noncomputable def E119:Env:={ tab:=tab,live:=[(0,[0,3,4],[])] }
theorem r119 (N:Nat) (a0:List Int):runF N E119 Tryz.f119 [.imm false Y5] [.deep false Y5] (a0,()) = p_laws_toIntS N a0:=by kernel_rfl
noncomputable def s119:FSpec:=⟨[.imm false Y5],[.deep false Y5],fun x=>S_laws_toIntS x.1,true⟩
theorem ok119:FnS Tryz.prog fa 119 s119:=fnAll (E:=E119) mixed tabOk trivial Tryz.func119 (by kernel_rfl) rfl fun x y h=>let ⟨N,hN⟩:=lim_some h; ⟨N,(r119 N x.1).trans hN⟩
noncomputable def E261:Env:={ tab:=tab,sig:=[(119,s119)] }
theorem r261 (N:Nat) (a0:T6):runF N E261 Tryz.f261 [.imm true Y15] [.deep true Y15] (a0,()) = p_laws_toAttr N a0:=by kernel_rfl
noncomputable def s261:FSpec:=⟨[.imm true Y15],[.deep true Y15],fun x=>S_laws_toAttr x.1,true⟩
theorem ok261:FnS Tryz.prog fa 261 s261:=fnAll (E:=E261) mixed tabOk ⟨ok119,trivial⟩ Tryz.func261 (by kernel_rfl) rfl fun x y h=>⟨0,(r261 0 x.1).trans h⟩
noncomputable def E230:Env:={ tab:=tab,sig:=[(260,s260),(261,s261)] }
theorem r230 (N:Nat) (a0:T7):runF N E230 Tryz.f230 [.imm true Y40] [.deep true Y40] (a0,()) = p_laws_toRow N a0:=by kernel_rfl
noncomputable def s230:FSpec:=⟨[.imm true Y40],[.deep true Y40],fun x=>S_laws_toRow x.1,true⟩
theorem ok230:FnS Tryz.prog fa 230 s230:=fnAll (E:=E230) mixed tabOk ⟨ok260,ok261,trivial⟩ Tryz.func230 (by kernel_rfl) rfl fun x y h=>⟨0,(r230 0 x.1).trans h⟩
noncomputable def E170:Env:={ tab:=tab,sig:=[(230,s230)],live:=[(0,[0,3,4],[])] }
theorem r170 (N:Nat) (a0:List T7):runF N E170 Tryz.f170 [.imm false Y42] [.deep false Y41] (a0,()) = p_laws_toRowS N a0:=by kernel_rfl
noncomputable def s170:FSpec:=⟨[.imm false Y42],[.deep false Y41],fun x=>S_laws_toRowS x.1,true⟩
theorem ok170:FnS Tryz.prog fa 170 s170:=fnAll (E:=E170) mixed tabOk ⟨ok230,trivial⟩ Tryz.func170 (by kernel_rfl) rfl fun x y h=>let ⟨N,hN⟩:=lim_some h; ⟨N,(r170 N x.1).trans hN⟩
noncomputable def E99:Env:={ tab:=tab,sig:=[(170,s170)],live:=[(0,[0,3,4],[])] }
theorem r99 (N:Nat) (a0:List (List T7)):runF N E99 Tryz.f99 [.imm false Y45] [.deep false Y44] (a0,()) = p_laws_toRowSS N a0:=by kernel_rfl
noncomputable def s99:FSpec:=⟨[.imm false Y45],[.deep false Y44],fun x=>S_laws_toRowSS x.1,true⟩
theorem ok99:FnS Tryz.prog fa 99 s99:=fnAll (E:=E99) mixed tabOk ⟨ok170,trivial⟩ Tryz.func99 (by kernel_rfl) rfl fun x y h=>let ⟨N,hN⟩:=lim_some h; ⟨N,(r99 N x.1).trans hN⟩
noncomputable def E42:Env:={ tab:=tab,sig:=[(99,s99)] }
theorem r42 (N:Nat) (a0:T8):runF N E42 Tryz.f42 [.imm true Y54] [.deep true Y53] (a0,()) = p_laws_toTable N a0:=by kernel_rfl
noncomputable def s42:FSpec:=⟨[.imm true Y54],[.deep true Y53],fun x=>S_laws_toTable x.1,true⟩
theorem ok42:FnS Tryz.prog fa 42 s42:=fnAll (E:=E42) mixed tabOk ⟨ok99,trivial⟩ Tryz.func42 (by kernel_rfl) rfl fun x y h=>⟨0,(r42 0 x.1).trans h⟩
noncomputable def E294:Env:={ tab:=tab,sig:=[(260,s260),(261,s261),(119,s119),(170,s170)] }
theorem r294 (N:Nat) (a0:T9):runF N E294 Tryz.f294 [.imm true Y76] [.deep true Y77] (a0,()) = p_laws_toLead N a0:=by kernel_rfl
noncomputable def s294:FSpec:=⟨[.imm true Y76],[.deep true Y77],fun x=>S_laws_toLead x.1,true⟩
theorem ok294:FnS Tryz.prog fa 294 s294:=fnAll (E:=E294) mixed tabOk ⟨ok260,ok261,ok119,ok170,trivial⟩ Tryz.func294 (by kernel_rfl) rfl fun x y h=>⟨0,(r294 0 x.1).trans h⟩
noncomputable def E259:Env:={ tab:=tab,sig:=[(294,s294)],live:=[(0,[0,3,4],[])] }
theorem r259 (N:Nat) (a0:List T9):runF N E259 Tryz.f259 [.imm false Y78] [.deep false Y79] (a0,()) = p_laws_toLeadS N a0:=by kernel_rfl
noncomputable def s259:FSpec:=⟨[.imm false Y78],[.deep false Y79],fun x=>S_laws_toLeadS x.1,true⟩
theorem ok259:FnS Tryz.prog fa 259 s259:=fnAll (E:=E259) mixed tabOk ⟨ok294,trivial⟩ Tryz.func259 (by kernel_rfl) rfl fun x y h=>let ⟨N,hN⟩:=lim_some h; ⟨N,(r259 N x.1).trans hN⟩
noncomputable def E199:Env:={ tab:=tab,sig:=[(42,s42),(259,s259)] }
theorem r199 (N:Nat) (a0:T10):runF N E199 Tryz.f199 [.imm true Y84] [.deep true Y85] (a0,()) = p_laws_toReplica N a0:=by kernel_rfl
noncomputable def s199:FSpec:=⟨[.imm true Y84],[.deep true Y85],fun x=>S_laws_toReplica x.1,true⟩
theorem ok199:FnS Tryz.prog fa 199 s199:=fnAll (E:=E199) mixed tabOk ⟨ok42,ok259,trivial⟩ Tryz.func199 (by kernel_rfl) rfl fun x y h=>⟨0,(r199 0 x.1).trans h⟩
noncomputable def E131:Env:={ tab:=tab,sig:=[(199,s199)],live:=[(0,[0,3,4],[])] }
theorem r131 (N:Nat) (a0:List T10):runF N E131 Tryz.f131 [.imm false Y86] [.deep false Y87] (a0,()) = p_laws_toReplicaS N a0:=by kernel_rfl
noncomputable def s131:FSpec:=⟨[.imm false Y86],[.deep false Y87],fun x=>S_laws_toReplicaS x.1,true⟩
theorem ok131:FnS Tryz.prog fa 131 s131:=fnAll (E:=E131) mixed tabOk ⟨ok199,trivial⟩ Tryz.func131 (by kernel_rfl) rfl fun x y h=>let ⟨N,hN⟩:=lim_some h; ⟨N,(r131 N x.1).trans hN⟩
noncomputable def E200:Env:={ tab:=tab,sig:=[(260,s260),(261,s261)] }
theorem r200 (N:Nat) (a0:T11):runF N E200 Tryz.f200 [.imm true Y59] [.deep true Y59] (a0,()) = p_laws_toMsg N a0:=by kernel_rfl
noncomputable def s200:FSpec:=⟨[.imm true Y59],[.deep true Y59],fun x=>S_laws_toMsg x.1,true⟩
theorem ok200:FnS Tryz.prog fa 200 s200:=fnAll (E:=E200) mixed tabOk ⟨ok260,ok261,trivial⟩ Tryz.func200 (by kernel_rfl) rfl fun x y h=>⟨0,(r200 0 x.1).trans h⟩
noncomputable def E132:Env:={ tab:=tab,sig:=[(200,s200)],live:=[(0,[0,3,4],[])] }
theorem r132 (N:Nat) (a0:List T11):runF N E132 Tryz.f132 [.imm false Y60] [.deep false Y61] (a0,()) = p_laws_toMsgS N a0:=by kernel_rfl
noncomputable def s132:FSpec:=⟨[.imm false Y60],[.deep false Y61],fun x=>S_laws_toMsgS x.1,true⟩
theorem ok132:FnS Tryz.prog fa 132 s132:=fnAll (E:=E132) mixed tabOk ⟨ok200,trivial⟩ Tryz.func132 (by kernel_rfl) rfl fun x y h=>let ⟨N,hN⟩:=lim_some h; ⟨N,(r132 N x.1).trans hN⟩
noncomputable def E201:Env:={ tab:=tab,sig:=[(260,s260)] }
theorem r201 (N:Nat) (a0:T12):runF N E201 Tryz.f201 [.imm true Y29] [.imm true Y29] (a0,()) = p_laws_toAsked N a0:=by kernel_rfl
noncomputable def s201:FSpec:=⟨[.imm true Y29],[.imm true Y29],fun x=>S_laws_toAsked x.1,true⟩
theorem ok201:FnS Tryz.prog fa 201 s201:=fnAll (E:=E201) mixed tabOk ⟨ok260,trivial⟩ Tryz.func201 (by kernel_rfl) rfl fun x y h=>⟨0,(r201 0 x.1).trans h⟩
noncomputable def E133:Env:={ tab:=tab,sig:=[(201,s201)],live:=[(0,[0,3,4],[])] }
theorem r133 (N:Nat) (a0:List T12):runF N E133 Tryz.f133 [.imm false Y30] [.deep false Y31] (a0,()) = p_laws_toAskedS N a0:=by kernel_rfl
noncomputable def s133:FSpec:=⟨[.imm false Y30],[.deep false Y31],fun x=>S_laws_toAskedS x.1,true⟩
theorem ok133:FnS Tryz.prog fa 133 s133:=fnAll (E:=E133) mixed tabOk ⟨ok201,trivial⟩ Tryz.func133 (by kernel_rfl) rfl fun x y h=>let ⟨N,hN⟩:=lim_some h; ⟨N,(r133 N x.1).trans hN⟩
noncomputable def E63:Env:={ tab:=tab,sig:=[(131,s131),(132,s132),(133,s133)] }
theorem r63 (N:Nat) (a0:T13):runF N E63 Tryz.f63 [.imm true Y88] [.deep true Y89] (a0,()) = p_laws_toNet N a0:=by kernel_rfl
noncomputable def s63:FSpec:=⟨[.imm true Y88],[.deep true Y89],fun x=>S_laws_toNet x.1,true⟩
theorem ok63:FnS Tryz.prog fa 63 s63:=fnAll (E:=E63) mixed tabOk ⟨ok131,ok132,ok133,trivial⟩ Tryz.func63 (by kernel_rfl) rfl fun x y h=>⟨0,(r63 0 x.1).trans h⟩
noncomputable def E89:Env:={ tab:=tab }
theorem r89 (N:Nat) (a0:Int):runF N E89 Tryz.f89 [.imm false Y1] [.imm false .bool] (a0,()) = p_spec_IsGroup N a0:=by kernel_rfl
noncomputable def s89:FSpec:=⟨[.imm false Y1],[.imm false .bool],fun x=>S_spec_IsGroup x.1,true⟩
theorem ok89:FnS Tryz.prog fa 89 s89:=fnAll (E:=E89) mixed tabOk trivial Tryz.func89 (by kernel_rfl) rfl fun x y h=>⟨0,(r89 0 x.1).trans h⟩
end Go.Proofs.YtdcbankajhnepaaGreat.Am
