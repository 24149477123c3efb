/- The library functions that stand on the shelf, and insertion. -/
import Derived.Test.YtlbnmldopjadoaaGreatN
import Derived.Test.YtlbnmldopjadoaaGreatX0
import Derived.Test.YtlbnmldopjadoaaGreatI1
import Derived.Test.YtlbnmldopjadoaaGreatProg
import Derived.KernelRfl
namespace Go.Proofs.YtlbnmldopjadoaaGreat
open Go Go.Vm Go.Proofs
def DD:Go.Shelf.Ren:=⟨fun|189=>252|125=>270|257=>269|128=>286|129=>287|294=>277|295=>278|296=>279|297=>280|298=>281|299=>282|216=>283|300=>284|301=>285|328=>292|329=>293|330=>294|331=>295|332=>296|215=>220|343=>297|n=>n,fun|28=>26|3=>3|46=>234|0=>0|51=>286|53=>288|4=>4|183=>280|182=>279|131=>150|5=>5|9=>9|218=>292|222=>296|228=>298|229=>142|n=>n,fun|n=>n⟩
theorem If:Lays.n189 Tryz.prog DD where
 mixed:=by kernel_rfl
 f125:=Tryz.func270.trans (congrArg some (by kernel_rfl))
 f128:=Tryz.func286.trans (congrArg some (by kernel_rfl))
 f129:=Tryz.func287.trans (congrArg some (by kernel_rfl))
 f189:=Tryz.func252.trans (congrArg some (by kernel_rfl))
 f215:=Tryz.func220.trans (congrArg some (by kernel_rfl))
 f216:=Tryz.func283.trans (congrArg some (by kernel_rfl))
 f257:=Tryz.func269.trans (congrArg some (by kernel_rfl))
 f294:=Tryz.func277.trans (congrArg some (by kernel_rfl))
 f295:=Tryz.func278.trans (congrArg some (by kernel_rfl))
 f296:=Tryz.func279.trans (congrArg some (by kernel_rfl))
 f297:=Tryz.func280.trans (congrArg some (by kernel_rfl))
 f298:=Tryz.func281.trans (congrArg some (by kernel_rfl))
 f299:=Tryz.func282.trans (congrArg some (by kernel_rfl))
 f300:=Tryz.func284.trans (congrArg some (by kernel_rfl))
 f301:=Tryz.func285.trans (congrArg some (by kernel_rfl))
 f328:=Tryz.func292.trans (congrArg some (by kernel_rfl))
 f329:=Tryz.func293.trans (congrArg some (by kernel_rfl))
 f330:=Tryz.func294.trans (congrArg some (by kernel_rfl))
 f331:=Tryz.func295.trans (congrArg some (by kernel_rfl))
 f332:=Tryz.func296.trans (congrArg some (by kernel_rfl))
 f343:=Tryz.func297.trans (congrArg some (by kernel_rfl))
 t0:=Tryz.underlying0
 a0:=Tryz.isAgg0
 z0:=Tryz.sizeOf0
 v0:=Tryz.zeroValue0
 t3:=Tryz.underlying3
 a3:=Tryz.isAgg3
 z3:=Tryz.sizeOf3
 v3:=Tryz.zeroValue3
 t4:=Tryz.underlying4
 a4:=Tryz.isAgg4
 z4:=Tryz.sizeOf4
 v4:=Tryz.zeroValue4
 t5:=Tryz.underlying5
 a5:=Tryz.isAgg5
 z5:=Tryz.sizeOf5
 v5:=Tryz.zeroValue5
 t9:=Tryz.underlying9
 a9:=Tryz.isAgg9
 z9:=Tryz.sizeOf9
 v9:=Tryz.zeroValue9
 t28:=Tryz.underlying26
 a28:=Tryz.isAgg26
 z28:=Tryz.sizeOf26
 v28:=Tryz.zeroValue26
 t46:=Tryz.underlying234
 a46:=Tryz.isAgg234
 z46:=Tryz.sizeOf234
 v46:=Tryz.zeroValue234
 t51:=Tryz.underlying286
 a51:=Tryz.isAgg286
 z51:=Tryz.sizeOf286
 v51:=Tryz.zeroValue286
 t53:=Tryz.underlying288
 a53:=Tryz.isAgg288
 z53:=Tryz.sizeOf288
 v53:=Tryz.zeroValue288
 t131:=Tryz.underlying150
 a131:=Tryz.isAgg150
 z131:=Tryz.sizeOf150
 v131:=Tryz.zeroValue150
 t182:=Tryz.underlying279
 a182:=Tryz.isAgg279
 z182:=Tryz.sizeOf279
 v182:=Tryz.zeroValue279
 t183:=Tryz.underlying280
 a183:=Tryz.isAgg280
 z183:=Tryz.sizeOf280
 v183:=Tryz.zeroValue280
 t218:=Tryz.underlying292
 a218:=Tryz.isAgg292
 z218:=Tryz.sizeOf292
 v218:=Tryz.zeroValue292
 t222:=Tryz.underlying296
 a222:=Tryz.isAgg296
 z222:=Tryz.sizeOf296
 v222:=Tryz.zeroValue296
 t228:=Tryz.underlying298
 a228:=Tryz.isAgg298
 z228:=Tryz.sizeOf298
 v228:=Tryz.zeroValue298
 t229:=Tryz.underlying142
 a229:=Tryz.isAgg142
 z229:=Tryz.sizeOf142
 v229:=Tryz.zeroValue142
def zG:Go.Shelf.Ren:=⟨fun|20=>253|n=>n,fun|22=>26|3=>3|4=>4|0=>0|n=>n,fun|n=>n⟩
theorem E8:Lays2.n20 Tryz.prog zG where
 mixed:=by kernel_rfl
 f20:=Tryz.func253.trans (congrArg some (by kernel_rfl))
 t0:=Tryz.underlying0
 a0:=Tryz.isAgg0
 z0:=Tryz.sizeOf0
 v0:=Tryz.zeroValue0
 t3:=Tryz.underlying3
 a3:=Tryz.isAgg3
 z3:=Tryz.sizeOf3
 v3:=Tryz.zeroValue3
 t4:=Tryz.underlying4
 a4:=Tryz.isAgg4
 z4:=Tryz.sizeOf4
 v4:=Tryz.zeroValue4
 t22:=Tryz.underlying26
 a22:=Tryz.isAgg26
 z22:=Tryz.sizeOf26
 v22:=Tryz.zeroValue26
 i3:=by kernel_rfl
def DX:Go.Shelf.Ren:=⟨fun|4=>288|n=>n,fun|22=>26|25=>3|3=>3|4=>4|9=>9|20=>20|0=>0|n=>n,fun|n=>n⟩
theorem Ij:Lays8.n4 Tryz.prog DX where
 mixed:=by kernel_rfl
 f4 := ⟨"slices.Grow[[]int,int]", by decide, Tryz.func288.trans (congrArg some (by kernel_rfl))⟩
 t0:=Tryz.underlying0
 a0:=Tryz.isAgg0
 z0:=Tryz.sizeOf0
 v0:=Tryz.zeroValue0
 t3:=Tryz.underlying3
 a3:=Tryz.isAgg3
 z3:=Tryz.sizeOf3
 v3:=Tryz.zeroValue3
 t4:=Tryz.underlying4
 a4:=Tryz.isAgg4
 z4:=Tryz.sizeOf4
 v4:=Tryz.zeroValue4
 t9:=Tryz.underlying9
 a9:=Tryz.isAgg9
 z9:=Tryz.sizeOf9
 v9:=Tryz.zeroValue9
 t20:=Tryz.underlying20
 a20:=Tryz.isAgg20
 z20:=Tryz.sizeOf20
 v20:=Tryz.zeroValue20
 t22:=Tryz.underlying26
 a22:=Tryz.isAgg26
 z22:=Tryz.sizeOf26
 v22:=Tryz.zeroValue26
theorem wt {p0:List GOcc} {p1:Int} {p2:List GOcc} {r:List GOcc} (hh:jq.f p0 p1 p2=some r):ah Tryz.prog 183 [oA 3 (dn p0),iA p1,oA 3 (dn p2)] [hA,hA,hA] (oA 3 (dn r)):=by
 unfold jq.f at hh
 obtain⟨h1,hh⟩:=ae hh
 obtain⟨h2,hh⟩:=ae hh
 obtain⟨h3,hh⟩:=ae hh
 obtain⟨h4,hh⟩:=ae hh
 cases hh
 obtain⟨i,rfl⟩:∃i:Nat,p1=i:=⟨p1.toNat,by omega⟩
 have hf:∀l:List GOcc,(dn l).flatten.all plain=true∧(dn l).flatten.all fV=true:=fun l=>by
  rw[fJ]
  induction l with
  |nil=>simp
  |cons x l ih=>simp only[List.map_cons,List.flatten_cons,List.all_append,ih.1,ih.2,Bool.and_true];simp[c_GOcc,plain,fV]
 have:=HE (rows:=dn p0) (rows2:=dn p2) (i:=i) (uC p0) (hf p0).1 (hf p0).2 (uC p2) (hf p2).1 (hf p2).2 (by rw[fJ,List.length_map];exact h3) (by rw[fJ,List.length_map];omega) (by rw[fJ,List.length_map];exact h4)
 simpa only[fJ,List.map_append,List.map_take,List.map_drop,Int.toNat_natCast] using this
theorem zE {p0:List Int} {r:List Int} (hh:kR.f p0=some r):ah Tryz.prog 252 [oA 1 (gd p0)] [oA 1 (gd r)] (.tup []):=by
 unfold kR.f at hh
 obtain⟨h,hh⟩:=ae hh
 cases hh
 exact sortW If h
theorem vA {p0:List Int} {r:List Int} (hh:eX.f p0=some r):ah Tryz.prog 253 [oA 1 (gd p0)] [hA] (tA (gd r)):=by
 unfold eX.f at hh
 obtain⟨h,hh⟩:=ae hh
 cases hh
 exact F9 E8 h
theorem Ai {p0:List Int} {p1:Int} {r:List Int} (hh:kP.f p0 p1=some r):ah Tryz.prog 288 [.lit (.slice none 0 0),iA p1] [hA,hA] (oA 1 (gd r)):=by
 unfold kP.f at hh
 obtain⟨h,hh⟩:=ae hh
 obtain⟨h1,hh⟩:=ae hh
 obtain⟨h2,hh⟩:=ae hh
 cases hh
 exact growW Ij (show Tryz.prog.info? 3=some Tryz.t3 by kernel_rfl) rfl rfl (by kernel_rfl) rfl h1 h2
end Go.Proofs.YtlbnmldopjadoaaGreat
