import Derived.Test.YtknhdhchejmpgaaGreatDoorX15
/- A part of a proof (no law is stated here). Made by program out of texts by AI agents. -/
namespace Go.Pe
open Go.Det
theorem VM{n:Int}(h:Sl i64 n):Sp.BG n=true:=by
 have h: -9223372036854775808≤n∧n≤9223372036854775807:=h;exact C3 h.1 (by omega)
theorem xR{x:(By Jv.ins).T}(h:wG Jv.ins x):Jv.pre x=true:=by
 obtain⟨_,h1,h2⟩:=h;exact Ac (VM h1) (VM h2)
theorem xW{x:(By LD.ins).T}(h:wG LD.ins x):LD.pre x=true:=by
 obtain⟨_,_,h2⟩:=h;exact VM h2
end Go.Pe
