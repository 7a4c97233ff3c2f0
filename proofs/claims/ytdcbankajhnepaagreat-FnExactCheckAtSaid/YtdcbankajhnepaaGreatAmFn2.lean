/- Functions, as they run on data. No condition. -/
import Derived.Test.YtdcbankajhnepaaGreatAmFn1
set_option linter.unusedVariables false
set_option maxRecDepth 100000
namespace Go.Proofs.YtdcbankajhnepaaGreat.Am
open Go.AM Go.AM.P Go.Proofs Go.Shelf
theorem zyd:z1m Tryz.prog 180:=enters Tryz.func180 (by kernel_rfl) rfl
noncomputable def E106:Env:={ tab:=tab,sig:=[(179,s179),(171,s171),(158,s158),(217,s217),(224,s224),(181,s181),(182,s182)],clos:=[(180,⟨Tryz.f180,[],[(0,[0,1,2,7],[])],[],[],[37],[]⟩)],live:=[(0,[1,3,18,19,20],[]),(2,[3,6,7,8,46,47,48],[]),(4,[6,11,79,80,81],[.hole 5])],inl:=[180],hol:=[90] }
theorem r106 (N:Nat) (a0:T8):runF N E106 Tryz.f106 [.imm true Y56] [.deep false Y9] (a0,())=z68 N a0:=by kernel_rfl
noncomputable def s106:FSpec:=⟨[.imm true Y56],[.deep false Y9],fun x=>z43 x.1,true⟩
theorem y9p:FnS Tryz.prog fa 106 s106:=z0h (E:=E106) (h3:=⟨⟨Tryz.func180,zyd⟩,trivial⟩) mixed z0g ⟨y8z,y95,zzw,y24,y6d,y8y,y8x,trivial⟩ Tryz.func106 (by kernel_rfl) rfl fun x y h=>let ⟨N,hN⟩:=z0d h; ⟨N,(r106 N x.1).trans hN⟩
theorem zyb:z1m Tryz.prog 208:=enters Tryz.func208 (by kernel_rfl) rfl
theorem zy7:z1m Tryz.prog 269:=enters Tryz.func269 (by kernel_rfl) rfl
noncomputable def E135:Env:={ tab:=tab,clos:=[(208,⟨Tryz.f208,[],[],[],[],[],[]⟩),(269,⟨Tryz.f269,[],[],[],[],[],[]⟩)],live:=[(0,[7,8],[])],inl:=[208,269],views:=true }
theorem y6t:EnvOk Tryz.prog (fa.at true) E135:=y2j mixed z0g trivial ⟨⟨Tryz.func208,zyb⟩,⟨Tryz.func269,zy7⟩,trivial⟩ trivial
noncomputable def s135:FSpec:=⟨[.imm false Y5,.imm false Y1],[.deep false Y5],fun x=>zi3 x.1 x.2.1,true⟩
theorem y63 (v:Int):runF 12 E135 Tryz.f135 [.imm false Y5,.imm false Y1] [.deep false Y5] ([v],(0:Int),())=some ((([]:List Int),()),()):=by kernel_rfl
theorem y62 (v:Int):runF 12 E135 Tryz.f135 [.imm false Y5,.imm false Y1] [.deep false Y5] ([v],(1:Int),())=some ((([v]:List Int),()),()):=by kernel_rfl
theorem y61 (v:Int):runF 12 E135 Tryz.f135 [.imm false Y5,.imm false Y1] [.deep false Y5] ([v],(2:Int),())=some ((([v,v]:List Int),()),()):=by kernel_rfl
theorem y60 (v:Int):runF 12 E135 Tryz.f135 [.imm false Y5,.imm false Y1] [.deep false Y5] ([v],(3:Int),())=some ((([v,v,v]:List Int),()),()):=by kernel_rfl
theorem y5z (v:Int):runF 12 E135 Tryz.f135 [.imm false Y5,.imm false Y1] [.deep false Y5] ([v],(4:Int),())=some ((([v,v,v,v]:List Int),()),()):=by kernel_rfl
theorem y5y (v:Int):runF 12 E135 Tryz.f135 [.imm false Y5,.imm false Y1] [.deep false Y5] ([v],(5:Int),())=some ((([v,v,v,v,v]:List Int),()),()):=by kernel_rfl
theorem y5x (v:Int):runF 12 E135 Tryz.f135 [.imm false Y5,.imm false Y1] [.deep false Y5] ([v],(6:Int),())=some ((([v,v,v,v,v,v]:List Int),()),()):=by kernel_rfl
theorem y5w (v:Int):runF 12 E135 Tryz.f135 [.imm false Y5,.imm false Y1] [.deep false Y5] ([v],(7:Int),())=some ((([v,v,v,v,v,v,v]:List Int),()),()):=by kernel_rfl
theorem y5v (v:Int):runF 12 E135 Tryz.f135 [.imm false Y5,.imm false Y1] [.deep false Y5] ([v],(8:Int),())=some ((([v,v,v,v,v,v,v,v]:List Int),()),()):=by kernel_rfl
theorem y5u (v:Int):runF 12 E135 Tryz.f135 [.imm false Y5,.imm false Y1] [.deep false Y5] ([v],(9:Int),())=some ((([v,v,v,v,v,v,v,v,v]:List Int),()),()):=by kernel_rfl
theorem y65:FOk Tryz.prog fa 135 s135:=zt8 y6t Tryz.func135 rfl fun x y h=>by
 obtain⟨v,h1,h2⟩:=zvn (P:=fun v n y=>runF 12 E135 Tryz.f135 [.imm false Y5,.imm false Y1] [.deep false Y5] ([v],n,())=some y) (fun v n hn=>by
  match n,hn with
  | 0,_=>exact y63 v
  | 1,_=>exact y62 v
  | 2,_=>exact y61 v
  | 3,_=>exact y60 v
  | 4,_=>exact y5z v
  | 5,_=>exact y5y v
  | 6,_=>exact y5x v
  | 7,_=>exact y5w v
  | 8,_=>exact y5v v
  | 9,_=>exact y5u v
  | k+10,hk=>omega) x y h
 obtain⟨x1,x2,⟨⟩⟩:=x
 obtain rfl:x1=[v]:=h1
 exact⟨12,h2⟩
theorem zyg:z1m Tryz.prog 135:=enters Tryz.func135 (by kernel_rfl) rfl
theorem y9h:FnS Tryz.prog fa 135 s135:=⟨zyg,y65,fun _=>rfl⟩
noncomputable def E107:Env:={ tab:=tab,sig:=[(135,s135)] }
theorem r107 (N:Nat)  : runF N E107 Tryz.f107 [] [.deep false Y5] (())=zbj N  := by kernel_rfl
noncomputable def s107:FSpec:=⟨[],[.deep false Y5],fun x=>z7z ,true⟩
theorem y9o:FnS Tryz.prog fa 107 s107:=z0h (E:=E107) mixed z0g ⟨y9h,trivial⟩ Tryz.func107 (by kernel_rfl) rfl fun x y h=>⟨0,(r107 0 ).trans h⟩
noncomputable def E183:Env:={ tab:=tab }
theorem r183 (N:Nat) (a0:List Int) (a1:T2):runF N E183 Tryz.f183 [.mut false Y5,.imm true Y26] [.imm true Y13] (a0,a1,())=zeo N a0 a1:=by kernel_rfl
noncomputable def s183:FSpec:=⟨[.mut false Y5,.imm true Y26],[.imm true Y13],fun x=>zav x.1 x.2.1,true⟩
theorem y8w:FnS Tryz.prog fa 183 s183:=z0h (E:=E183) mixed z0g trivial Tryz.func183 (by kernel_rfl) rfl fun x y h=>⟨0,(r183 0 x.1 x.2.1).trans h⟩
noncomputable def E108:Env:={ tab:=tab,sig:=[(158,s158),(183,s183)],live:=[(0,[2,3,7,12,13,14],[])],imm:=[25] }
theorem r108 (N:Nat) (a0:T8) (a1:List (List Int)) (a2:List Int):runF N E108 Tryz.f108 [.imm true Y56,.imm false Y9,.mut false Y5] [.deep false Y42] (a0,a1,a2,())=z4y N a0 a1 a2:=by kernel_rfl
noncomputable def s108:FSpec:=⟨[.imm true Y56,.imm false Y9,.mut false Y5],[.deep false Y42],fun x=>z33 x.1 x.2.1 x.2.2.1,true⟩
theorem y9n:FnS Tryz.prog fa 108 s108:=z0h (E:=E108) mixed z0g ⟨zzw,y8w,trivial⟩ Tryz.func108 (by kernel_rfl) rfl fun x y h=>let ⟨N,hN⟩:=z0d h; ⟨N,(r108 N x.1 x.2.1 x.2.2.1).trans hN⟩
theorem zyh:z1m Tryz.prog 110:=enters Tryz.func110 (by kernel_rfl) rfl
noncomputable def E50:Env:={ tab:=tab,sig:=[(69,s69),(106,s106),(78,s78),(107,s107),(108,s108),(111,s111)],clos:=[(110,⟨Tryz.f110,[(false,Y5),(false,Y5)],[],[],[],[],[]⟩)],res:=true,rfn:=[(109,⟨.sort,25,1,false⟩)],rsl:=[23] }
theorem r50 (N:Nat) (a0:T8) (a1:Int):runF N E50 Tryz.f50 [.imm true Y56,.imm false Y1] [.deep true Y23,.imm false .bool] (a0,a1,())=zbm N a0 a1:=by kernel_rfl
noncomputable def s50:FSpec:=⟨[.imm true Y56,.imm false Y1],[.deep true Y23,.imm false .bool],fun x=>z3w x.1 x.2.1,true⟩
theorem ok50:FnS Tryz.prog fa 50 s50:=z0h (E:=E50) (h3:=⟨⟨Tryz.func110,zyh⟩,trivial⟩) (h5:=⟨y0s,trivial⟩) mixed z0g ⟨ok69,y9p,ok78,y9o,y9n,y6h,trivial⟩ Tryz.func50 (by kernel_rfl) rfl fun x y h=>⟨0,(r50 0 x.1 x.2.1).trans h⟩
noncomputable def E44:Env:={ tab:=tab,live:=[(0,[0,1,5],[])] }
theorem r44 (N:Nat) (a0:List Int) (a1:List Int):runF N E44 Tryz.f44 [.imm false Y5,.imm false Y5] [.imm false .bool] (a0,a1,())=zcx N a0 a1:=by kernel_rfl
noncomputable def s44:FSpec:=⟨[.imm false Y5,.imm false Y5],[.imm false .bool],fun x=>z6q x.1 x.2.1,true⟩
theorem ok44:FnS Tryz.prog fa 44 s44:=z0h (E:=E44) mixed z0g trivial Tryz.func44 (by kernel_rfl) rfl fun x y h=>let ⟨N,hN⟩:=z0d h; ⟨N,(r44 N x.1 x.2.1).trans hN⟩
noncomputable def E93:Env:={ tab:=tab,sig:=[(44,s44)],live:=[(0,[0,1,5],[])] }
theorem r93 (N:Nat) (a0:List (List Int)) (a1:List (List Int)):runF N E93 Tryz.f93 [.imm false Y9,.imm false Y9] [.imm false .bool] (a0,a1,())=zg5 N a0 a1:=by kernel_rfl
noncomputable def s93:FSpec:=⟨[.imm false Y9,.imm false Y9],[.imm false .bool],fun x=>zbs x.1 x.2.1,true⟩
theorem ok93:FnS Tryz.prog fa 93 s93:=z0h (E:=E93) mixed z0g ⟨ok44,trivial⟩ Tryz.func93 (by kernel_rfl) rfl fun x y h=>let ⟨N,hN⟩:=z0d h; ⟨N,(r93 N x.1 x.2.1).trans hN⟩
noncomputable def E51:Env:={ tab:=tab,sig:=[(93,s93),(44,s44)] }
theorem r51 (N:Nat) (a0:T1) (a1:T1):runF N E51 Tryz.f51 [.imm true Y23,.imm true Y23] [.imm false .bool] (a0,a1,())=zbg N a0 a1:=by kernel_rfl
noncomputable def s51:FSpec:=⟨[.imm true Y23,.imm true Y23],[.imm false .bool],fun x=>z3v x.1 x.2.1,true⟩
theorem ok51:FnS Tryz.prog fa 51 s51:=z0h (E:=E51) mixed z0g ⟨ok93,ok44,trivial⟩ Tryz.func51 (by kernel_rfl) rfl fun x y h=>⟨0,(r51 0 x.1 x.2.1).trans h⟩
noncomputable def E192:Env:={ tab:=tab }
theorem r192 (N:Nat) (a0:T2) (a1:T2):runF N E192 Tryz.f192 [.imm true Y26,.imm true Y26] [.imm false .bool] (a0,a1,())=zel N a0 a1:=by kernel_rfl
noncomputable def s192:FSpec:=⟨[.imm true Y26,.imm true Y26],[.imm false .bool],fun x=>zat x.1 x.2.1,true⟩
theorem y8t:FnS Tryz.prog fa 192 s192:=z0h (E:=E192) mixed z0g trivial Tryz.func192 (by kernel_rfl) rfl fun x y h=>⟨0,(r192 0 x.1 x.2.1).trans h⟩
noncomputable def E271:Env:={ tab:=tab,sig:=[(44,s44)] }
theorem r271 (N:Nat) (a0:T6) (a1:T6):runF N E271 Tryz.f271 [.imm true Y15,.imm true Y15] [.imm false .bool] (a0,a1,())=zcy N a0 a1:=by kernel_rfl
noncomputable def s271:FSpec:=⟨[.imm true Y15,.imm true Y15],[.imm false .bool],fun x=>z9d x.1 x.2.1,true⟩
theorem y86:FnS Tryz.prog fa 271 s271:=z0h (E:=E271) mixed z0g ⟨ok44,trivial⟩ Tryz.func271 (by kernel_rfl) rfl fun x y h=>⟨0,(r271 0 x.1 x.2.1).trans h⟩
noncomputable def E234:Env:={ tab:=tab,sig:=[(192,s192),(271,s271)] }
theorem r234 (N:Nat) (a0:T7) (a1:T7):runF N E234 Tryz.f234 [.imm true Y43,.imm true Y43] [.imm false .bool] (a0,a1,())=zek N a0 a1:=by kernel_rfl
noncomputable def s234:FSpec:=⟨[.imm true Y43,.imm true Y43],[.imm false .bool],fun x=>zas x.1 x.2.1,true⟩
theorem y8g:FnS Tryz.prog fa 234 s234:=z0h (E:=E234) mixed z0g ⟨y8t,y86,trivial⟩ Tryz.func234 (by kernel_rfl) rfl fun x y h=>⟨0,(r234 0 x.1 x.2.1).trans h⟩
noncomputable def E172:Env:={ tab:=tab,sig:=[(234,s234)],live:=[(0,[0,1,5],[])] }
theorem r172 (N:Nat) (a0:List T7) (a1:List T7):runF N E172 Tryz.f172 [.imm false Y44,.imm false Y44] [.imm false .bool] (a0,a1,())=zhh N a0 a1:=by kernel_rfl
noncomputable def s172:FSpec:=⟨[.imm false Y44,.imm false Y44],[.imm false .bool],fun x=>zdp x.1 x.2.1,true⟩
theorem y94:FnS Tryz.prog fa 172 s172:=z0h (E:=E172) mixed z0g ⟨y8g,trivial⟩ Tryz.func172 (by kernel_rfl) rfl fun x y h=>let ⟨N,hN⟩:=z0d h; ⟨N,(r172 N x.1 x.2.1).trans hN⟩
noncomputable def E101:Env:={ tab:=tab,sig:=[(172,s172)],live:=[(0,[0,1,5],[])] }
theorem r101 (N:Nat) (a0:List (List T7)) (a1:List (List T7)):runF N E101 Tryz.f101 [.imm false Y47,.imm false Y47] [.imm false .bool] (a0,a1,())=zg4 N a0 a1:=by kernel_rfl
noncomputable def s101:FSpec:=⟨[.imm false Y47,.imm false Y47],[.imm false .bool],fun x=>zbr x.1 x.2.1,true⟩
theorem y9s:FnS Tryz.prog fa 101 s101:=z0h (E:=E101) mixed z0g ⟨y94,trivial⟩ Tryz.func101 (by kernel_rfl) rfl fun x y h=>let ⟨N,hN⟩:=z0d h; ⟨N,(r101 N x.1 x.2.1).trans hN⟩
noncomputable def E45:Env:={ tab:=tab,sig:=[(101,s101)] }
theorem r45 (N:Nat) (a0:T8) (a1:T8):runF N E45 Tryz.f45 [.imm true Y56,.imm true Y56] [.imm false .bool] (a0,a1,())=zbf N a0 a1:=by kernel_rfl
noncomputable def s45:FSpec:=⟨[.imm true Y56,.imm true Y56],[.imm false .bool],fun x=>z7w x.1 x.2.1,true⟩
theorem ok45:FnS Tryz.prog fa 45 s45:=z0h (E:=E45) mixed z0g ⟨y9s,trivial⟩ Tryz.func45 (by kernel_rfl) rfl fun x y h=>⟨0,(r45 0 x.1 x.2.1).trans h⟩
noncomputable def E47:Env:={ tab:=tab,live:=[(0,[0,1,5],[])] }
theorem r47 (N:Nat) (a0:List Int) (a1:Int):runF N E47 Tryz.f47 [.mut false Y5,.imm false Y1] [.imm false Y1] (a0,a1,())=z9t N a0 a1:=by kernel_rfl
noncomputable def s47:FSpec:=⟨[.mut false Y5,.imm false Y1],[.imm false Y1],fun x=>z1x x.1 x.2.1,true⟩
theorem ok47:FnS Tryz.prog fa 47 s47:=z0h (E:=E47) mixed z0g trivial Tryz.func47 (by kernel_rfl) rfl fun x y h=>let ⟨N,hN⟩:=z0d h; ⟨N,(r47 N x.1 x.2.1).trans hN⟩
noncomputable def E167:Env:={ tab:=tab,sig:=[(47,s47)],live:=[(0,[0,1,5],[])] }
theorem r167 (N:Nat) (a0:List T7) (a1:Int):runF N E167 Tryz.f167 [.mut false Y44,.imm false Y1] [.imm false Y1] (a0,a1,())=z9s N a0 a1:=by kernel_rfl
noncomputable def s167:FSpec:=⟨[.mut false Y44,.imm false Y1],[.imm false Y1],fun x=>z36 x.1 x.2.1,true⟩
theorem y99:FnS Tryz.prog fa 167 s167:=z0h (E:=E167) mixed z0g ⟨ok47,trivial⟩ Tryz.func167 (by kernel_rfl) rfl fun x y h=>let ⟨N,hN⟩:=z0d h; ⟨N,(r167 N x.1 x.2.1).trans hN⟩
noncomputable def E94:Env:={ tab:=tab,sig:=[(167,s167)],live:=[(0,[0,1,5],[])] }
theorem r94 (N:Nat) (a0:List (List T7)) (a1:Int):runF N E94 Tryz.f94 [.mut false Y47,.imm false Y1] [.imm false Y1] (a0,a1,())=zdt N a0 a1:=by kernel_rfl
noncomputable def s94:FSpec:=⟨[.mut false Y47,.imm false Y1],[.imm false Y1],fun x=>z8x x.1 x.2.1,true⟩
theorem ok94:FnS Tryz.prog fa 94 s94:=z0h (E:=E94) mixed z0g ⟨y99,trivial⟩ Tryz.func94 (by kernel_rfl) rfl fun x y h=>let ⟨N,hN⟩:=z0d h; ⟨N,(r94 N x.1 x.2.1).trans hN⟩
noncomputable def E46:Env:={ tab:=tab,sig:=[(94,s94)] }
theorem r46 (N:Nat) (a0:T8) (a1:Int):runF N E46 Tryz.f46 [.mut true Y56,.imm false Y1] [.imm false Y1] (a0,a1,())=z8k N a0 a1:=by kernel_rfl
noncomputable def s46:FSpec:=⟨[.mut true Y56,.imm false Y1],[.imm false Y1],fun x=>z5k x.1 x.2.1,true⟩
theorem ok46:FnS Tryz.prog fa 46 s46:=z0h (E:=E46) mixed z0g ⟨ok94,trivial⟩ Tryz.func46 (by kernel_rfl) rfl fun x y h=>⟨0,(r46 0 x.1 x.2.1).trans h⟩
noncomputable def E95:Env:={ tab:=tab,sig:=[(47,s47)],live:=[(0,[0,1,5],[])] }
theorem r95 (N:Nat) (a0:List (List Int)) (a1:Int):runF N E95 Tryz.f95 [.mut false Y9,.imm false Y1] [.imm false Y1] (a0,a1,())=zdu N a0 a1:=by kernel_rfl
noncomputable def s95:FSpec:=⟨[.mut false Y9,.imm false Y1],[.imm false Y1],fun x=>z8y x.1 x.2.1,true⟩
theorem ok95:FnS Tryz.prog fa 95 s95:=z0h (E:=E95) mixed z0g ⟨ok47,trivial⟩ Tryz.func95 (by kernel_rfl) rfl fun x y h=>let ⟨N,hN⟩:=z0d h; ⟨N,(r95 N x.1 x.2.1).trans hN⟩
noncomputable def E52:Env:={ tab:=tab,sig:=[(95,s95),(47,s47)] }
theorem r52 (N:Nat) (a0:T1) (a1:Int):runF N E52 Tryz.f52 [.mut true Y23,.imm false Y1] [.imm false Y1] (a0,a1,())=z8l N a0 a1:=by kernel_rfl
noncomputable def s52:FSpec:=⟨[.mut true Y23,.imm false Y1],[.imm false Y1],fun x=>z5l x.1 x.2.1,true⟩
theorem ok52:FnS Tryz.prog fa 52 s52:=z0h (E:=E52) mixed z0g ⟨ok95,ok47,trivial⟩ Tryz.func52 (by kernel_rfl) rfl fun x y h=>⟨0,(r52 0 x.1 x.2.1).trans h⟩
noncomputable def E48:Env:={ tab:=tab,live:=[(0,[0,1,5],[])] }
theorem r48 (N:Nat) (a0:List Int) (a1:Int):runF N E48 Tryz.f48 [.imm false Y5,.imm false Y1] [.imm false Y1] (a0,a1,())=z9u N a0 a1:=by kernel_rfl
noncomputable def s48:FSpec:=⟨[.imm false Y5,.imm false Y1],[.imm false Y1],fun x=>z37 x.1 x.2.1,true⟩
theorem ok48:FnS Tryz.prog fa 48 s48:=z0h (E:=E48) mixed z0g trivial Tryz.func48 (by kernel_rfl) rfl fun x y h=>let ⟨N,hN⟩:=z0d h; ⟨N,(r48 N x.1 x.2.1).trans hN⟩
noncomputable def E96:Env:={ tab:=tab,sig:=[(48,s48)],live:=[(0,[0,1,5],[])] }
theorem r96 (N:Nat) (a0:List (List Int)) (a1:Int):runF N E96 Tryz.f96 [.imm false Y9,.imm false Y1] [.imm false Y1] (a0,a1,())=zdv N a0 a1:=by kernel_rfl
noncomputable def s96:FSpec:=⟨[.imm false Y9,.imm false Y1],[.imm false Y1],fun x=>z8z x.1 x.2.1,true⟩
theorem ok96:FnS Tryz.prog fa 96 s96:=z0h (E:=E96) mixed z0g ⟨ok48,trivial⟩ Tryz.func96 (by kernel_rfl) rfl fun x y h=>let ⟨N,hN⟩:=z0d h; ⟨N,(r96 N x.1 x.2.1).trans hN⟩
noncomputable def E53:Env:={ tab:=tab,sig:=[(96,s96),(48,s48)] }
theorem r53 (N:Nat) (a0:T1) (a1:Int):runF N E53 Tryz.f53 [.imm true Y23,.imm false Y1] [.imm false Y1] (a0,a1,())=z8m N a0 a1:=by kernel_rfl
noncomputable def s53:FSpec:=⟨[.imm true Y23,.imm false Y1],[.imm false Y1],fun x=>z3q x.1 x.2.1,true⟩
theorem ok53:FnS Tryz.prog fa 53 s53:=z0h (E:=E53) mixed z0g ⟨ok96,ok48,trivial⟩ Tryz.func53 (by kernel_rfl) rfl fun x y h=>⟨0,(r53 0 x.1 x.2.1).trans h⟩
noncomputable def E6:Env:={ tab:=tab,sig:=[(40,s40),(42,s42),(49,s49),(50,s50),(51,s51),(45,s45),(46,s46),(52,s52),(53,s53)] }
theorem r6 (N:Nat) (a0:T8) (a1:Int):runF N E6 Tryz.f6 [.imm true Y57,.imm false Y1] [.imm false .bool] (a0,a1,())=z4a N a0 a1:=by kernel_rfl
theorem env6:EnvOk Tryz.prog (fa.at true) E6:=y2j mixed z0g ⟨ok40,ok42,ok49,ok50,ok51,ok45,ok46,ok52,ok53,trivial⟩ trivial trivial
end Go.Proofs.YtdcbankajhnepaaGreat.Am
