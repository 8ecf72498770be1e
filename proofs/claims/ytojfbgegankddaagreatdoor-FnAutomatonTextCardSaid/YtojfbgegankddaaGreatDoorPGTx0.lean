-- Written by a program (wip/myprint.py): the machine side of one law: each function that it reaches, as a plain function, and the proof that a call comes to just that.
import Derived.Test.YtojfbgegankddaaGreatDoorProg
import Derived.Below
import Derived.Deep.Draws
import Derived.Deep.AppendLies
import Derived.Maps.AppendAt
import Derived.OwnWalk
import Derived.Laws.BytesArg
import Derived.Laws.MakeOwn
import Derived.Laws.OwnMore
import Derived.Deep.OwnRows
import Derived.Tactics
import Derived.Lib.ConvBytes
import Derived.Laws.Slices
import Derived.WalkKit
import Derived.KernelRfl
import Derived.RowKit3
import Derived.Deep.LoopGhost
import Derived.Deep.QuietTactic
import Derived.BigQuiet
import Derived.WideLaws
import Derived.Deep.DeepCutAuto
import Derived.Deep.CutBlock
import Derived.Deep.RegionHeld3
import Derived.Laws.Rows
import Derived.Lib.AppendStr
import Derived.ArgAppend
import Derived.Laws.IdiomCopy
import Derived.OrdersHeld
import Derived.Laws.BitsLemmas
import Derived.RowKit
import Derived.Test.YtojfbgegankddaaGreatDoorMyDoor
import Derived.Test.YtojfbgegankddaaGreatDoorMyShort
import Derived.Test.YtojfbgegankddaaGreatDoorWWords
import Derived.Test.YtojfbgegankddaaGreatDoorWLast
import Derived.Test.YtojfbgegankddaaGreatDoorWTab
import Derived.Test.YtojfbgegankddaaGreatDoorWFour
import Derived.Test.YtojfbgegankddaaGreatDoorWQPut
import Derived.Test.YtojfbgegankddaaGreatDoorWApart
import Derived.Test.YtojfbgegankddaaGreatDoorWArr
import Derived.Test.YtojfbgegankddaaGreatDoorWZeros
import Derived.Test.YtojfbgegankddaaGreatDoorWFoot
import Derived.Test.YtojfbgegankddaaGreatDoorWKept
import Derived.Test.YtojfbgegankddaaGreatDoorWShare
import Derived.Test.YtojfbgegankddaaGreatDoorWN
import Derived.Test.YtojfbgegankddaaGreatDoorWFootNe
import Derived.Test.YtojfbgegankddaaGreatDoorWAt
import Derived.Test.YtojfbgegankddaaGreatDoorWEqStruct
import Derived.Test.YtojfbgegankddaaGreatDoorWRepsOne
import Derived.Test.YtojfbgegankddaaGreatDoorWInv
import Derived.Test.YtojfbgegankddaaGreatDoorWInvWords
import Derived.Test.YtojfbgegankddaaGreatDoorWGuard
import Derived.Test.YtojfbgegankddaaGreatDoorWNEv
import Derived.Test.YtojfbgegankddaaGreatDoorWMore
namespace Go.Proofs.YtojfbgegankddaaGreatDoor.PGT
open Go.RowKit Go.Proofs.YtojfbgegankddaaGreatDoorW.PrintWords Go.Proofs.YtojfbgegankddaaGreatDoorW.PrintLast Go.Proofs.YtojfbgegankddaaGreatDoorW.PrintMore
attribute [local go_sem] max2_int min2_int max_two min_two max_three min_three max_four min_four   -- for this text's walks alone
set_option linter.unusedVariables false
set_option linter.unusedSimpArgs false



def errW:Option Int→Value
  |none=> .nilIface
  |some c=> .iface 88 (.int .i64 c)
theorem errW_none:errW none= .nilIface:=rfl
theorem errW_some (c:Int):errW (some c)= .iface 88 (.int .i64 c):=rfl

theorem info3:(Tryz.prog.info? 3).map (fun i=>(i.zero,i.size,i.bytes))=some (some (.int .i64 0),1,8):=by kernel_rfl
theorem info5:(Tryz.prog.info? 5).map (fun i=>(i.zero,i.size,i.bytes))=some (some (.int .u8 0),1,1):=by kernel_rfl
theorem info9:(Tryz.prog.info? 9).map (fun i=>(i.zero,i.size,i.bytes))=some (some (.string ⟨#[]⟩),1,16):=by kernel_rfl
theorem info40:(Tryz.prog.info? 40).map (fun i=>(i.zero,i.size,i.bytes))=some (some (.agg #[(.int .i64 0),(.string ⟨#[]⟩),(.int .i64 0),(.int .i64 0)]),4,40):=by kernel_rfl
-- the values' own types
/-! #### struct type 40 -/
structure S40 where
  f0:Int
  f1:ByteArray
  f2:Int
  f3:Int
def z40:S40:=⟨(0:Int),(⟨#[]⟩:ByteArray),(0:Int),(0:Int)⟩
def k40:Kd S40:=Kd.iso (Kd.pair (Kd.int .i64) (Kd.pair Kd.string (Kd.pair (Kd.int .i64) (Kd.int .i64)))) (fun x:S40=>(x.f0,x.f1,x.f2,x.f3))
theorem k40_open {w:World} {x:S40} {cs:List Value} (h:k40.K w x cs):cs=[.int .i64 x.f0, .string x.f1, .int .i64 x.f2, .int .i64 x.f3]:=by
  obtain ⟨_,_,rfl,rfl,⟨_,_,rfl,rfl,⟨_,_,rfl,rfl,rfl⟩⟩⟩:=h
  exact rfl
theorem k40_openM {w:World} {base:Nat} {ok:Nat→Prop} {x:S40} {cs:List Value} (h:k40.M w base ok x cs):cs=[.int .i64 x.f0, .string x.f1, .int .i64 x.f2, .int .i64 x.f3]:=by
  obtain ⟨_,_,rfl,rfl,⟨_,_,rfl,rfl,⟨_,_,rfl,rfl,rfl⟩⟩⟩:=h
  exact rfl
theorem k40_mk (w:World) (x:S40):k40.K w x [.int .i64 x.f0, .string x.f1, .int .i64 x.f2, .int .i64 x.f3]:=⟨[.int .i64 x.f0],[.string x.f1, .int .i64 x.f2, .int .i64 x.f3],rfl,rfl,⟨[.string x.f1],[.int .i64 x.f2, .int .i64 x.f3],rfl,rfl,⟨[.int .i64 x.f2],[.int .i64 x.f3],rfl,rfl,rfl⟩⟩⟩
theorem k40_mkM (w:World) (base:Nat) (ok:Nat→Prop) (x:S40):k40.M w base ok x [.int .i64 x.f0, .string x.f1, .int .i64 x.f2, .int .i64 x.f3]:=⟨[.int .i64 x.f0],[.string x.f1, .int .i64 x.f2, .int .i64 x.f3],rfl,rfl,⟨[.string x.f1],[.int .i64 x.f2, .int .i64 x.f3],rfl,rfl,⟨[.int .i64 x.f2],[.int .i64 x.f3],rfl,rfl,rfl⟩⟩⟩
theorem k40_mkF (W:World) (ok:Nat→Prop) (x:S40):Kd.FK k40 W ok x [.int .i64 x.f0, .string x.f1, .int .i64 x.f2, .int .i64 x.f3]:=fun W2 _=>k40_mk W2 x
def rd_T40 (xs:List S40) (i:Int):S40:=xs.getD i.toNat z40
theorem at_T40 {w:World} {A:Option Addr} {n:Nat} {xs:List S40} (h:Kd.C k40 w A n xs) (i:Int) (h0:0≤i) (h1:i<n):∃ad,A=some ad∧w.cell? (ad.add (i.toNat*4))=some (.int .i64 (rd_T40 xs i).f0)∧w.cell? ⟨(ad.add (i.toNat*4)).block,(ad.add (i.toNat*4)).off+1,none⟩=some (.string (rd_T40 xs i).f1)∧w.cell? ⟨(ad.add (i.toNat*4)).block,(ad.add (i.toNat*4)).off+2,none⟩=some (.int .i64 (rd_T40 xs i).f2)∧w.cell? ⟨(ad.add (i.toNat*4)).block,(ad.add (i.toNat*4)).off+3,none⟩=some (.int .i64 (rd_T40 xs i).f3):=by
  obtain ⟨ad,c,e,_,hK,hc0⟩:=Kd.C_get h z40 i h0 h1
  have hc:∀j u,c[j]? =some u→w.cell? (ad.add (i.toNat*4+j))=some u:=hc0
  obtain rfl:=k40_open hK
  exact ⟨ad,e,hc 0 _ rfl,by rw [←add_field _ _ 1 (by omega)];exact hc 1 _ rfl,by rw [←add_field _ _ 2 (by omega)];exact hc 2 _ rfl,by rw [←add_field _ _ 3 (by omega)];exact hc 3 _ rfl⟩

/-! #### struct type 127 -/
structure S127 where
  f0:Int
  f1:Int
  f2:Int
def z127:S127:=⟨(0:Int),(0:Int),(0:Int)⟩
def k127:Kd S127:=Kd.iso (Kd.pair (Kd.int .u16) (Kd.pair (Kd.int .u16) (Kd.int .u16))) (fun x:S127=>(x.f0,x.f1,x.f2))
theorem k127_open {w:World} {x:S127} {cs:List Value} (h:k127.K w x cs):cs=[.int .u16 x.f0, .int .u16 x.f1, .int .u16 x.f2]:=by
  obtain ⟨_,_,rfl,rfl,⟨_,_,rfl,rfl,rfl⟩⟩:=h
  exact rfl
theorem k127_openM {w:World} {base:Nat} {ok:Nat→Prop} {x:S127} {cs:List Value} (h:k127.M w base ok x cs):cs=[.int .u16 x.f0, .int .u16 x.f1, .int .u16 x.f2]:=by
  obtain ⟨_,_,rfl,rfl,⟨_,_,rfl,rfl,rfl⟩⟩:=h
  exact rfl
theorem k127_mk (w:World) (x:S127):k127.K w x [.int .u16 x.f0, .int .u16 x.f1, .int .u16 x.f2]:=⟨[.int .u16 x.f0],[.int .u16 x.f1, .int .u16 x.f2],rfl,rfl,⟨[.int .u16 x.f1],[.int .u16 x.f2],rfl,rfl,rfl⟩⟩
theorem k127_mkM (w:World) (base:Nat) (ok:Nat→Prop) (x:S127):k127.M w base ok x [.int .u16 x.f0, .int .u16 x.f1, .int .u16 x.f2]:=⟨[.int .u16 x.f0],[.int .u16 x.f1, .int .u16 x.f2],rfl,rfl,⟨[.int .u16 x.f1],[.int .u16 x.f2],rfl,rfl,rfl⟩⟩
theorem k127_mkF (W:World) (ok:Nat→Prop) (x:S127):Kd.FK k127 W ok x [.int .u16 x.f0, .int .u16 x.f1, .int .u16 x.f2]:=fun W2 _=>k127_mk W2 x
def rd_T127 (xs:List S127) (i:Int):S127:=xs.getD i.toNat z127
theorem at_T127 {w:World} {A:Option Addr} {n:Nat} {xs:List S127} (h:Kd.C k127 w A n xs) (i:Int) (h0:0≤i) (h1:i<n):∃ad,A=some ad∧w.cell? (ad.add (i.toNat*3))=some (.int .u16 (rd_T127 xs i).f0)∧w.cell? ⟨(ad.add (i.toNat*3)).block,(ad.add (i.toNat*3)).off+1,none⟩=some (.int .u16 (rd_T127 xs i).f1)∧w.cell? ⟨(ad.add (i.toNat*3)).block,(ad.add (i.toNat*3)).off+2,none⟩=some (.int .u16 (rd_T127 xs i).f2):=by
  obtain ⟨ad,c,e,_,hK,hc0⟩:=Kd.C_get h z127 i h0 h1
  have hc:∀j u,c[j]? =some u→w.cell? (ad.add (i.toNat*3+j))=some u:=hc0
  obtain rfl:=k127_open hK
  exact ⟨ad,e,hc 0 _ rfl,by rw [←add_field _ _ 1 (by omega)];exact hc 1 _ rfl,by rw [←add_field _ _ 2 (by omega)];exact hc 2 _ rfl⟩

/-! #### struct type 130 -/
structure S130 where
  f0:Int
  f1:Int
  f2:Int
def z130:S130:=⟨(0:Int),(0:Int),(0:Int)⟩
def k130:Kd S130:=Kd.iso (Kd.pair (Kd.int .u32) (Kd.pair (Kd.int .u32) (Kd.int .u32))) (fun x:S130=>(x.f0,x.f1,x.f2))
theorem k130_open {w:World} {x:S130} {cs:List Value} (h:k130.K w x cs):cs=[.int .u32 x.f0, .int .u32 x.f1, .int .u32 x.f2]:=by
  obtain ⟨_,_,rfl,rfl,⟨_,_,rfl,rfl,rfl⟩⟩:=h
  exact rfl
theorem k130_openM {w:World} {base:Nat} {ok:Nat→Prop} {x:S130} {cs:List Value} (h:k130.M w base ok x cs):cs=[.int .u32 x.f0, .int .u32 x.f1, .int .u32 x.f2]:=by
  obtain ⟨_,_,rfl,rfl,⟨_,_,rfl,rfl,rfl⟩⟩:=h
  exact rfl
theorem k130_mk (w:World) (x:S130):k130.K w x [.int .u32 x.f0, .int .u32 x.f1, .int .u32 x.f2]:=⟨[.int .u32 x.f0],[.int .u32 x.f1, .int .u32 x.f2],rfl,rfl,⟨[.int .u32 x.f1],[.int .u32 x.f2],rfl,rfl,rfl⟩⟩
theorem k130_mkM (w:World) (base:Nat) (ok:Nat→Prop) (x:S130):k130.M w base ok x [.int .u32 x.f0, .int .u32 x.f1, .int .u32 x.f2]:=⟨[.int .u32 x.f0],[.int .u32 x.f1, .int .u32 x.f2],rfl,rfl,⟨[.int .u32 x.f1],[.int .u32 x.f2],rfl,rfl,rfl⟩⟩
theorem k130_mkF (W:World) (ok:Nat→Prop) (x:S130):Kd.FK k130 W ok x [.int .u32 x.f0, .int .u32 x.f1, .int .u32 x.f2]:=fun W2 _=>k130_mk W2 x
def rd_T130 (xs:List S130) (i:Int):S130:=xs.getD i.toNat z130
theorem at_T130 {w:World} {A:Option Addr} {n:Nat} {xs:List S130} (h:Kd.C k130 w A n xs) (i:Int) (h0:0≤i) (h1:i<n):∃ad,A=some ad∧w.cell? (ad.add (i.toNat*3))=some (.int .u32 (rd_T130 xs i).f0)∧w.cell? ⟨(ad.add (i.toNat*3)).block,(ad.add (i.toNat*3)).off+1,none⟩=some (.int .u32 (rd_T130 xs i).f1)∧w.cell? ⟨(ad.add (i.toNat*3)).block,(ad.add (i.toNat*3)).off+2,none⟩=some (.int .u32 (rd_T130 xs i).f2):=by
  obtain ⟨ad,c,e,_,hK,hc0⟩:=Kd.C_get h z130 i h0 h1
  have hc:∀j u,c[j]? =some u→w.cell? (ad.add (i.toNat*3+j))=some u:=hc0
  obtain rfl:=k130_open hK
  exact ⟨ad,e,hc 0 _ rfl,by rw [←add_field _ _ 1 (by omega)];exact hc 1 _ rfl,by rw [←add_field _ _ 2 (by omega)];exact hc 2 _ rfl⟩

end Go.Proofs.YtojfbgegankddaaGreatDoor.PGT
