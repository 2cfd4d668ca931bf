import Derived.Test.YtcpofeehpijbcaaGreatDoorNm4
import Derived.Test.YtcpofeehpijbcaaGreatDoorMg14
set_option maxHeartbeats 16000000
set_option maxRecDepth 100000
namespace Go.Proofs.YtcpofeehpijbcaaGreatDoor
open Lib renaming hid → lh
open Go.RowKit Go.Lib Go.Shelf
attribute [local go_sem ↓] Go.wp_at_zero Go.wp_at_succ
theorem cn_p0 (w:World) (hE:EnvP w) :
  Calls Tryz.prog 31 #[.agg #[.string ⟨#[67,79,77,77,69,78,84]⟩,.int .u8 1,.bool false,.int .i64 0,.int .i64 0,.string ⟨#[32,32,104,101,108,108,111]⟩,.string ⟨#[]⟩],.string ⟨#[67,79,77,77,69,78,84,32,32,32,104,101,108,108,111]⟩] w fun e w'=>e=.returned (.bool true)∧Below w.heap.size w w':=q0q (⟨[67,79,77,77,69,78,84],1,false,0,0,[32,32,104,101,108,108,111],[]⟩:CD) [67,79,77,77,69,78,84,32,32,32,104,101,108,108,111] (by decide) (by refine ⟨⟨?_,?_,?_,?_,?_,?_,?_,?_⟩,?_,?_,?_⟩ <;> decide) (by kernel_rfl) (.inl rfl) (by kernel_rfl) w hE
theorem cn_p1 (w:World) (hE:EnvP w) :
  Calls Tryz.prog 31 #[.agg #[.string ⟨#[]⟩,.int .u8 1,.bool false,.int .i64 0,.int .i64 0,.string ⟨#[]⟩,.string ⟨#[]⟩],.string ⟨#[]⟩] w fun e w'=>e=.returned (.bool true)∧Below w.heap.size w w':=q0q (⟨[],1,false,0,0,[],[]⟩:CD) [] (by decide) (by refine ⟨⟨?_,?_,?_,?_,?_,?_,?_,?_⟩,?_,?_,?_⟩ <;> decide) (by kernel_rfl) (.inl rfl) (by kernel_rfl) w hE
theorem cn_p2 (w:World) (hE:EnvP w) :
  Calls Tryz.prog 31 #[.agg #[.string ⟨#[83,73,77,80,76,69]⟩,.int .u8 2,.bool true,.int .i64 0,.int .i64 0,.string ⟨#[]⟩,.string ⟨#[]⟩],.string ⟨#[83,73,77,80,76,69,32,32,61,32,32,32,32,32,32,32,32,32,32,32,32,32,32,32,32,32,32,32,32,84]⟩] w fun e w'=>e=.returned (.bool true)∧Below w.heap.size w w':=q0q (⟨[83,73,77,80,76,69],2,true,0,0,[],[]⟩:CD) [83,73,77,80,76,69,32,32,61,32,32,32,32,32,32,32,32,32,32,32,32,32,32,32,32,32,32,32,32,84] (by decide) (by refine ⟨⟨?_,?_,?_,?_,?_,?_,?_,?_⟩,?_,?_,?_⟩ <;> decide) (by kernel_rfl) (.inr (Nat.le_of_ble_eq_true (by kernel_rfl))) (by kernel_rfl) w hE
theorem cn_p3 (w:World) (hE:EnvP w) :
  Calls Tryz.prog 31 #[.agg #[.string ⟨#[69]⟩,.int .u8 6,.bool false,.int .i64 0,.int .i64 0,.string ⟨#[]⟩,.string ⟨#[110]⟩],.string ⟨#[69,32,32,32,32,32,32,32,61,32,32,32,32,32,32,32,32,32,32,32,32,32,32,32,32,32,32,32,32,32,32,47,32,110]⟩] w fun e w'=>e=.returned (.bool true)∧Below w.heap.size w w':=q0q (⟨[69],6,false,0,0,[],[110]⟩:CD) [69,32,32,32,32,32,32,32,61,32,32,32,32,32,32,32,32,32,32,32,32,32,32,32,32,32,32,32,32,32,32,47,32,110] (by decide) (by refine ⟨⟨?_,?_,?_,?_,?_,?_,?_,?_⟩,?_,?_,?_⟩ <;> decide) (by kernel_rfl) (.inr (Nat.le_of_ble_eq_true (by kernel_rfl))) (by kernel_rfl) w hE
theorem cn_p4 (w:World) (hE:EnvP w) :
  Calls Tryz.prog 31 #[.agg #[.string ⟨#[84]⟩,.int .u8 5,.bool false,.int .i64 0,.int .i64 0,.string ⟨#[]⟩,.string ⟨#[]⟩],.string ⟨#[84,32,32,32,32,32,32,32,61,32,39,32,32,32,32,32,32,32,32,39]⟩] w fun e w'=>e=.returned (.bool true)∧Below w.heap.size w w':=q0q (⟨[84],5,false,0,0,[],[]⟩:CD) [84,32,32,32,32,32,32,32,61,32,39,32,32,32,32,32,32,32,32,39] (by decide) (by refine ⟨⟨?_,?_,?_,?_,?_,?_,?_,?_⟩,?_,?_,?_⟩ <;> decide) (by kernel_rfl) (.inr (Nat.le_of_ble_eq_true (by kernel_rfl))) (by kernel_rfl) w hE
theorem cn_r0 (w:World) (hE:EnvP w) :
  Calls Tryz.prog 32 #[.string ⟨#[69,32,32,32,32,32,32,32,61,32,47,32,110,32]⟩,.agg #[.string ⟨#[69]⟩,.int .u8 6,.bool false,.int .i64 0,.int .i64 0,.string ⟨#[]⟩,.string ⟨#[110]⟩]] w fun e w'=>e=.returned (.bool true)∧Below w.heap.size w w':=q0x [69,32,32,32,32,32,32,32,61,32,47,32,110,32] (⟨[69],6,false,0,0,[],[110]⟩:CD) (by decide) (by kernel_rfl) w hE
theorem cn_r1 (w:World) (hE:EnvP w) :
  Calls Tryz.prog 32 #[.string ⟨#[70,32,32,32,32,32,32,32,61,32,32,32,70,47,120]⟩,.agg #[.string ⟨#[70]⟩,.int .u8 2,.bool false,.int .i64 0,.int .i64 0,.string ⟨#[]⟩,.string ⟨#[120]⟩]] w fun e w'=>e=.returned (.bool true)∧Below w.heap.size w w':=q0x [70,32,32,32,32,32,32,32,61,32,32,32,70,47,120] (⟨[70],2,false,0,0,[],[120]⟩:CD) (by decide) (by kernel_rfl) w hE
theorem cn_r2 (w:World) (hE:EnvP w) :
  Calls Tryz.prog 32 #[.string ⟨#[78,32,32,32,32,32,32,32,61,32,45,48,48,48,55,32,32,32,47,32]⟩,.agg #[.string ⟨#[78]⟩,.int .u8 3,.bool false,.int .i64 (-7),.int .i64 0,.string ⟨#[]⟩,.string ⟨#[]⟩]] w fun e w'=>e=.returned (.bool true)∧Below w.heap.size w w':=q0x [78,32,32,32,32,32,32,32,61,32,45,48,48,48,55,32,32,32,47,32] (⟨[78],3,false,-7,0,[],[]⟩:CD) (by decide) (by kernel_rfl) w hE
theorem cn_r3 (w:World) (hE:EnvP w) :
  Calls Tryz.prog 32 #[.string ⟨#[78,32,32,32,32,32,32,32,61,32,45,57,50,50,51,51,55,50,48,51,54,56,53,52,55,55,53,56,48,56]⟩,.agg #[.string ⟨#[78]⟩,.int .u8 3,.bool false,.int .i64 (-9223372036854775808),.int .i64 0,.string ⟨#[]⟩,.string ⟨#[]⟩]] w fun e w'=>e=.returned (.bool true)∧Below w.heap.size w w':=q0x [78,32,32,32,32,32,32,32,61,32,45,57,50,50,51,51,55,50,48,51,54,56,53,52,55,55,53,56,48,56] (⟨[78],3,false,-9223372036854775808,0,[],[]⟩:CD) (by decide) (by kernel_rfl) w hE
theorem cn_r4 (w:World) (hE:EnvP w) :
  Calls Tryz.prog 32 #[.string ⟨#[82,32,32,32,32,32,32,32,61,32,49,48,48,48,46]⟩,.agg #[.string ⟨#[82]⟩,.int .u8 4,.bool false,.int .i64 1,.int .i64 3,.string ⟨#[]⟩,.string ⟨#[]⟩]] w fun e w'=>e=.returned (.bool true)∧Below w.heap.size w w':=q0x [82,32,32,32,32,32,32,32,61,32,49,48,48,48,46] (⟨[82],4,false,1,3,[],[]⟩:CD) (by decide) (by kernel_rfl) w hE
theorem cn_r5 (w:World) (hE:EnvP w) :
  Calls Tryz.prog 32 #[.string ⟨#[82,32,32,32,32,32,32,32,61,32,45,48,46,48,48,69,57]⟩,.agg #[.string ⟨#[82]⟩,.int .u8 4,.bool false,.int .i64 0,.int .i64 0,.string ⟨#[]⟩,.string ⟨#[]⟩]] w fun e w'=>e=.returned (.bool true)∧Below w.heap.size w w':=q0x [82,32,32,32,32,32,32,32,61,32,45,48,46,48,48,69,57] (⟨[82],4,false,0,0,[],[]⟩:CD) (by decide) (by kernel_rfl) w hE
theorem cn_r6 (w:World) (hE:EnvP w) :
  Calls Tryz.prog 32 #[.string ⟨#[84,32,32,32,32,32,32,32,61,32,32,32,32,32,32,39,97,38,39,32,47,32,98]⟩,.agg #[.string ⟨#[84]⟩,.int .u8 5,.bool false,.int .i64 0,.int .i64 0,.string ⟨#[97,38]⟩,.string ⟨#[98]⟩]] w fun e w'=>e=.returned (.bool true)∧Below w.heap.size w w':=q0x [84,32,32,32,32,32,32,32,61,32,32,32,32,32,32,39,97,38,39,32,47,32,98] (⟨[84],5,false,0,0,[97,38],[98]⟩:CD) (by decide) (by kernel_rfl) w hE
theorem cn_w0 (w:World) (hE:EnvP w) :
  Calls Tryz.prog 33 #[.string ⟨#[75,69,89,32,32,32,32,32,61,32,39,97]⟩] w fun e w'=>e=.returned (.bool true)∧Below w.heap.size w w':=q0f [75,69,89,32,32,32,32,32,61,32,39,97] (by decide) (by kernel_rfl) w hE
theorem cn_w1 (w:World) (hE:EnvP w) :
  Calls Tryz.prog 33 #[.string ⟨#[75,69,89,32,32,32,32,32,61,32,57,50,50,51,51,55,50,48,51,54,56,53,52,55,55,53,56,48,56]⟩] w fun e w'=>e=.returned (.bool true)∧Below w.heap.size w w':=q0f [75,69,89,32,32,32,32,32,61,32,57,50,50,51,51,55,50,48,51,54,56,53,52,55,55,53,56,48,56] (by decide) (by kernel_rfl) w hE
theorem cn_w2 (w:World) (hE:EnvP w) :
  Calls Tryz.prog 33 #[.string ⟨#[75,69,89,32,32,32,32,32,61,32,49,46,69,49,48,48]⟩] w fun e w'=>e=.returned (.bool true)∧Below w.heap.size w w':=q0f [75,69,89,32,32,32,32,32,61,32,49,46,69,49,48,48] (by decide) (by kernel_rfl) w hE
theorem cn_w3 (w:World) (hE:EnvP w) :
  Calls Tryz.prog 33 #[.string ⟨#[75,69,89,32,32,32,32,32,61,32,49,69]⟩] w fun e w'=>e=.returned (.bool true)∧Below w.heap.size w w':=q0f [75,69,89,32,32,32,32,32,61,32,49,69] (by decide) (by kernel_rfl) w hE
theorem cn_w4 (w:World) (hE:EnvP w) :
  Calls Tryz.prog 33 #[.string ⟨#[75,69,89,32,32,32,32,32,61,32,46]⟩] w fun e w'=>e=.returned (.bool true)∧Below w.heap.size w w':=q0f [75,69,89,32,32,32,32,32,61,32,46] (by decide) (by kernel_rfl) w hE
theorem cn_w5 (w:World) (hE:EnvP w) :
  Calls Tryz.prog 33 #[.string ⟨#[75,69,89,32,32,32,32,32,61,32,84,82,85,69]⟩] w fun e w'=>e=.returned (.bool true)∧Below w.heap.size w w':=q0f [75,69,89,32,32,32,32,32,61,32,84,82,85,69] (by decide) (by kernel_rfl) w hE
theorem cn_w6 (w:World) (hE:EnvP w) :
  Calls Tryz.prog 33 #[.string ⟨#[75,69,89,32,32,32,32,32,61,32,39,97,39,32,98]⟩] w fun e w'=>e=.returned (.bool true)∧Below w.heap.size w w':=q0f [75,69,89,32,32,32,32,32,61,32,39,97,39,32,98] (by decide) (by kernel_rfl) w hE
theorem cn_w7 (w:World) (hE:EnvP w) :
  Calls Tryz.prog 33 #[.string ⟨#[75,101,121,32,32,32,32,32,61,32,49]⟩] w fun e w'=>e=.returned (.bool true)∧Below w.heap.size w w':=q0f [75,101,121,32,32,32,32,32,61,32,49] (by decide) (by kernel_rfl) w hE
theorem cn_w8 (w:World) (hE:EnvP w) :
  Calls Tryz.prog 33 #[.string ⟨#[75,69,89,32,32,32,32,32,61,49]⟩] w fun e w'=>e=.returned (.bool true)∧Below w.heap.size w w':=q0f [75,69,89,32,32,32,32,32,61,49] (by decide) (by kernel_rfl) w hE
theorem cn_w9 (w:World) (hE:EnvP w) :
  Calls Tryz.prog 33 #[.string ⟨#[75,69,32,89,32,32,32,32,61,32,49]⟩] w fun e w'=>e=.returned (.bool true)∧Below w.heap.size w w':=q0f [75,69,32,89,32,32,32,32,61,32,49] (by decide) (by kernel_rfl) w hE
theorem cn_w10 (w:World) (hE:EnvP w) :
  Calls Tryz.prog 33 #[.string ⟨#[69,78,68]⟩] w fun e w'=>e=.returned (.bool true)∧Below w.heap.size w w':=q0f [69,78,68] (by decide) (by kernel_rfl) w hE
theorem cn_w11 (w:World) (hE:EnvP w) :
  Calls Tryz.prog 33 #[.string ⟨#[67,79,77,77,69,78,84,32,61,32,120]⟩] w fun e w'=>e=.returned (.bool true)∧Below w.heap.size w w':=q0f [67,79,77,77,69,78,84,32,61,32,120] (by decide) (by kernel_rfl) w hE
theorem cn_w12 (w:World) (hE:EnvP w) :
  Calls Tryz.prog 33 #[.string ⟨#[67,79,78,84,73,78,85,69,32,32,39,97,39]⟩] w fun e w'=>e=.returned (.bool true)∧Below w.heap.size w w':=q0f [67,79,78,84,73,78,85,69,32,32,39,97,39] (by decide) (by kernel_rfl) w hE
theorem cn_w13 (w:World) (hE:EnvP w) :
  Calls Tryz.prog 33 #[.string ⟨#[88,32,32,32,32,32,32,32,61,32,49,69,51,49]⟩] w fun e w'=>e=.returned (.bool true)∧Below w.heap.size w w':=q0f [88,32,32,32,32,32,32,32,61,32,49,69,51,49] (by decide) (by kernel_rfl) w hE
def cnn66:List UInt8:=repN [110] 66
theorem cnn66_r (w:World):Calls Tryz.prog 34 #[.string ⟨#[110]⟩,.int .i64 66] w fun e w'=>e=.returned (.string ⟨cnn66.toArray⟩)∧w'=w:=q1e [110] 66 (by decide) (by omega) w
theorem cnn66_s:(ByteArray.mk cnn66.toArray).size=66:=by kernel_rfl
def cna69:List UInt8:=repN [97] 69
theorem cna69_r (w:World):Calls Tryz.prog 34 #[.string ⟨#[97]⟩,.int .i64 69] w fun e w'=>e=.returned (.string ⟨cna69.toArray⟩)∧w'=w:=q1e [97] 69 (by decide) (by omega) w
def cnq34:List UInt8:=repN [39] 34
theorem cnq34_r (w:World):Calls Tryz.prog 34 #[.string ⟨#[39]⟩,.int .i64 34] w fun e w'=>e=.returned (.string ⟨cnq34.toArray⟩)∧w'=w:=q1e [39] 34 (by decide) (by omega) w
def cnq68:List UInt8:=repN [39,39] 34
theorem cnq68_r (w:World):Calls Tryz.prog 34 #[.string ⟨#[39,39]⟩,.int .i64 34] w fun e w'=>e=.returned (.string ⟨cnq68.toArray⟩)∧w'=w:=q1e [39,39] 34 (by decide) (by omega) w
theorem cnq68_s:(ByteArray.mk cnq68.toArray).size=68:=by kernel_rfl
def cna67:List UInt8:=repN [97] 67
theorem cna67_r (w:World):Calls Tryz.prog 34 #[.string ⟨#[97]⟩,.int .i64 67] w fun e w'=>e=.returned (.string ⟨cna67.toArray⟩)∧w'=w:=q1e [97] 67 (by decide) (by omega) w
theorem cna67_s:(ByteArray.mk cna67.toArray).size=67:=by kernel_rfl
def cnsp:List UInt8:=repN [32] 16080
theorem cnsp_r (w:World):Calls Tryz.prog 34 #[.string ⟨#[32]⟩,.int .i64 16080] w fun e w'=>e=.returned (.string ⟨cnsp.toArray⟩)∧w'=w:=q1e [32] 16080 (by decide) (by omega) w
def cnn48:List UInt8:=repN [110] 48
theorem cnn48_r (w:World):Calls Tryz.prog 34 #[.string ⟨#[110]⟩,.int .i64 48] w fun e w'=>e=.returned (.string ⟨cnn48.toArray⟩)∧w'=w:=q1e [110] 48 (by decide) (by omega) w
def cnn47:List UInt8:=repN [110] 47
theorem cnn47_r (w:World):Calls Tryz.prog 34 #[.string ⟨#[110]⟩,.int .i64 47] w fun e w'=>e=.returned (.string ⟨cnn47.toArray⟩)∧w'=w:=q1e [110] 47 (by decide) (by omega) w
def cnW:List UInt8:=[88,32,32,32,32,32,32,32,61,32,49,47] ++ cnn66
theorem cnW_e:ByteArray.mk #[88,32,32,32,32,32,32,32,61,32,49,47] ++ ByteArray.mk cnn66.toArray=ByteArray.mk cnW.toArray:=q0d [88,32,32,32,32,32,32,32,61,32,49,47] cnn66
def cnX:List UInt8:=[76,32,32,32,32,32,32,32,61,32,39] ++ cnq68
theorem cnX_e:ByteArray.mk #[76,32,32,32,32,32,32,32,61,32,39] ++ ByteArray.mk cnq68.toArray=ByteArray.mk cnX.toArray:=q0d [76,32,32,32,32,32,32,32,61,32,39] cnq68
theorem cnX_s:(ByteArray.mk cnX.toArray).size=79:=by kernel_rfl
def cnY:List UInt8:=cnX ++ [39]
theorem cnY_e:ByteArray.mk cnX.toArray ++ ByteArray.mk #[39]=ByteArray.mk cnY.toArray:=q0d cnX [39]
theorem cnY_s:(ByteArray.mk cnY.toArray).size=80:=by kernel_rfl
def cnU:List UInt8:=[76,32,32,32,32,32,32,32,61,32,39] ++ cna67
theorem cnU_e:ByteArray.mk #[76,32,32,32,32,32,32,32,61,32,39] ++ ByteArray.mk cna67.toArray=ByteArray.mk cnU.toArray:=q0d [76,32,32,32,32,32,32,32,61,32,39] cna67
theorem cnU_s:(ByteArray.mk cnU.toArray).size=78:=by kernel_rfl
def cnV:List UInt8:=cnU ++ [38,39]
theorem cnV_e:ByteArray.mk cnU.toArray ++ ByteArray.mk #[38,39]=ByteArray.mk cnV.toArray:=q0d cnU [38,39]
theorem cnV_s:(ByteArray.mk cnV.toArray).size=80:=by kernel_rfl
def cnF:List UInt8:=padR [67,79,78,84,73,78,85,69,32,32,39,97,97,39] 80
theorem cnF_r (w:World):Calls Tryz.prog 36 #[.string ⟨#[67,79,78,84,73,78,85,69,32,32,39,97,97,39]⟩] w fun e w'=>e=.returned (.string ⟨cnF.toArray⟩)∧w'=w:=fill80_any [67,79,78,84,73,78,85,69,32,32,39,97,97,39] (by decide) w
theorem cnF_s:(ByteArray.mk cnF.toArray).size=80:=by kernel_rfl
def cnS:List UInt8:=cnV ++ cnF
theorem cnS_e:ByteArray.mk cnV.toArray ++ ByteArray.mk cnF.toArray=ByteArray.mk cnS.toArray:=q0d cnV cnF
def cnL:CD:=⟨[76],5,false,0,0,cna69,[]⟩
theorem cnL_ok:OkK cnL:=by refine ⟨⟨?_,?_,?_,?_,?_,?_,?_,?_⟩,?_,?_,?_⟩ <;> decide
theorem cn_w14 (w:World) (hE:EnvP w) :
  Calls Tryz.prog 33 #[.string ⟨cnW.toArray⟩] w fun e w'=>e=.returned (.bool true)∧Below w.heap.size w w':=q0f cnW (by decide) (by kernel_rfl) w hE
theorem cn_p5 (w:World) (hE:EnvP w) :
  Calls Tryz.prog 31 #[.agg #[.string ⟨#[76]⟩,.int .u8 5,.bool false,.int .i64 0,.int .i64 0,.string ⟨cnq34.toArray⟩,.string ⟨#[]⟩],.string ⟨cnY.toArray⟩] w fun e w'=>e=.returned (.bool true)∧Below w.heap.size w w':=q0q ⟨[76],5,false,0,0,cnq34,[]⟩ cnY (by decide) (by refine ⟨⟨?_,?_,?_,?_,?_,?_,?_,?_⟩,?_,?_,?_⟩ <;> decide) (by kernel_rfl) (.inr (Nat.le_of_ble_eq_true (by kernel_rfl))) (by kernel_rfl) w hE
theorem cn_print (A:Option Addr) (B c:Nat) (w:World) (hs:SlC w B A [cnL] c) (hE:EnvP w) :
  Calls Tryz.prog 35 #[.slice A 1 c] w fun e w'=>e=.returned (.tuple #[.string ⟨cnS.toArray⟩,.int .i64 0])∧Below w.heap.size w w':=by
 have h:=print_all [cnL] A B c w hs hE.env (by decide) (fun x hx=>by rw [List.mem_singleton.1 hx]; kernel_rfl) (by rw [List.flatMap_singleton]; exact Nat.le_of_ble_eq_true (by kernel_rfl));rw [List.flatMap_singleton,show lineA cnL=cnS by kernel_rfl] at h;exact h
theorem cn_parse (w:World) (hE:EnvP w) :
  Calls Tryz.prog 10 #[.string ⟨cnS.toArray⟩] w fun e w'=>(∃ A c,e=.returned (.tuple #[.slice A 1 c,.int .i64 0])∧SlC w' w'.heap.size A [cnL] c)∧Below w.heap.size w w':=by
 have h:=parse_any cnS (Nat.le_of_ble_eq_true (by kernel_rfl)) w hE;rw [show parS cnS=([cnL],0) by kernel_rfl] at h;exact h
theorem cn_form (w:World) (hE:EnvP w) :
  Calls Tryz.prog 10 #[.string ⟨#[88]⟩] w fun e w'=>(∃ A c,e=.returned (.tuple #[.slice A 0 c,.int .i64 12]))∧Below w.heap.size w w':=by
 have h:=parse_any [88] (by decide) w hE;rw [show parS [88]=([],12) by kernel_rfl] at h;exact h.mono fun e w' ⟨⟨A,c,he,_⟩,hb⟩=>⟨⟨A,c,he⟩,hb⟩
theorem cn_many (w:World) (hE:EnvP w) :
  Calls Tryz.prog 10 #[.string ⟨cnsp.toArray⟩] w fun e w'=>(∃ A c,e=.returned (.tuple #[.slice A 0 c,.int .i64 4]))∧Below w.heap.size w w':=by
 have e1:cnsp=List.replicate (80 * 201) 32:=repN_one 32 16080;rw [e1];have h:=parse_any (List.replicate (80 * 201) 32) (by rw [List.length_replicate]; decide) w hE;rw [parS_blank 201 (by decide)] at h;exact h.mono fun e w' ⟨⟨A,c,he,_⟩,hb⟩=>⟨⟨A,c,he⟩,hb⟩
theorem cn_put (n:Nat) (A:Option Addr) (c0:Nat) (w:World) (hE:EnvP w) :
  Calls Tryz.prog 16 #[.slice A n c0,.agg #[.string ⟨#[65]⟩,.int .u8 4,.bool false,.int .i64 10,.int .i64 0,.string ⟨#[]⟩,.string ⟨#[]⟩]] w fun e w'=>e=.returned (.tuple #[.slice none 0 0,.int .i64 8])∧Below w.heap.size w w':=put_bad n A c0 (⟨[65],4,false,10,0,[],[]⟩:CD) (by refine ⟨⟨?_,?_,?_,?_,?_,?_,?_,?_⟩,?_,?_,?_⟩ <;> decide) (by kernel_rfl) w hE.env
theorem cn_find (A:Option Addr) (B c:Nat) (w:World) (hs:SlC w B A [cnL] c) :
  Calls Tryz.prog 17 #[.slice A 1 c,.string ⟨#[88]⟩] w fun e w'=>e=.returned (.tuple #[.int .i64 0,.int .i64 6])∧Below w.heap.size w w':=by
 have h:=find_any [cnL] [88] A B c w hs.g;rw [show fndK [88] [cnL]=none by kernel_rfl] at h;exact h
theorem cn_value (w:World) (hE:EnvP w):Calls Tryz.prog 18 #[.agg #[.string ⟨#[65]⟩,.int .u8 4,.bool false,.int .i64 (-25),.int .i64 (-1),.string ⟨#[]⟩,.string ⟨#[]⟩]] w (FRes (frQ (Rat.divInt (-5) 2),0) w):=by
 have h:=cvalue_real [65] [] [] false (-25) (-1) (by decide) (by decide) (by refine ⟨⟨?_,?_,?_,?_,?_,?_,?_,?_⟩,?_,?_⟩ <;> decide) (by kernel_rfl) w hE.env;rw [show qR (-25) (-1)=Rat.divInt (-5) 2 by kernel_rfl] at h;exact h
theorem cn_of (w:World):Calls Tryz.prog 19 #[.int .i64 (-5),.int .i64 2] w (FRes (frQ (Rat.divInt (-5) 2),0) w):=by
 have h:=of_any (-5) 2 (by decide) (by decide) (by decide) (by decide) w;rw [of_q (by decide)] at h;exact h
theorem cn_none (w:World) (hE:EnvP w) :
  Calls Tryz.prog 18 #[.agg #[.string ⟨#[76]⟩,.int .u8 5,.bool false,.int .i64 0,.int .i64 0,.string ⟨cna69.toArray⟩,.string ⟨#[]⟩]] w fun e w'=>e=.returned (.tuple #[.agg #[.bool false,.slice none 0 0,.bool false,.slice none 0 0],.int .i64 6])∧Below w.heap.size w w':=value_none cnL cnL_ok (by kernel_rfl) rfl w hE.env
theorem cn_c0 (w:World) (hE:EnvP w) :
  Calls Tryz.prog 37 #[.agg #[.string ⟨#[76]⟩,.int .u8 5,.bool false,.int .i64 0,.int .i64 0,.string ⟨#[97,32]⟩,.string ⟨#[]⟩]] w fun e w'=>e=.returned (.int .i64 8)∧Below w.heap.size w w':=by
 have hc:OkK (⟨[76],5,false,0,0,[97,32],[]⟩:CD):=(by refine ⟨⟨?_,?_,?_,?_,?_,?_,?_,?_⟩,?_,?_,?_⟩ <;> decide);have h:=q0v (⟨[76],5,false,0,0,[97,32],[]⟩:CD) hc.ok hc.o hc.t hc.e w hE.env;rw [show chkC (⟨[76],5,false,0,0,[97,32],[]⟩:CD)=false by kernel_rfl,if_neg (by decide)] at h;exact h
theorem cn_c1 (w:World) (hE:EnvP w) :
  Calls Tryz.prog 37 #[.agg #[.string ⟨#[65]⟩,.int .u8 2,.bool false,.int .i64 1,.int .i64 0,.string ⟨#[]⟩,.string ⟨#[]⟩]] w fun e w'=>e=.returned (.int .i64 8)∧Below w.heap.size w w':=by
 have hc:OkK (⟨[65],2,false,1,0,[],[]⟩:CD):=(by refine ⟨⟨?_,?_,?_,?_,?_,?_,?_,?_⟩,?_,?_,?_⟩ <;> decide);have h:=q0v (⟨[65],2,false,1,0,[],[]⟩:CD) hc.ok hc.o hc.t hc.e w hE.env;rw [show chkC (⟨[65],2,false,1,0,[],[]⟩:CD)=false by kernel_rfl,if_neg (by decide)] at h;exact h
theorem cn_c2 (w:World) (hE:EnvP w) :
  Calls Tryz.prog 37 #[.agg #[.string ⟨#[65]⟩,.int .u8 2,.bool false,.int .i64 0,.int .i64 0,.string ⟨#[]⟩,.string ⟨cnn48.toArray⟩]] w fun e w'=>e=.returned (.int .i64 8)∧Below w.heap.size w w':=by
 have hc:OkK (⟨[65],2,false,0,0,[],cnn48⟩:CD):=(by refine ⟨⟨?_,?_,?_,?_,?_,?_,?_,?_⟩,?_,?_,?_⟩ <;> decide);have h:=q0v (⟨[65],2,false,0,0,[],cnn48⟩:CD) hc.ok hc.o hc.t hc.e w hE.env;rw [show chkC (⟨[65],2,false,0,0,[],cnn48⟩:CD)=false by kernel_rfl,if_neg (by decide)] at h;exact h
theorem cn_c3 (w:World) (hE:EnvP w) :
  Calls Tryz.prog 37 #[.agg #[.string ⟨#[65]⟩,.int .u8 2,.bool false,.int .i64 0,.int .i64 0,.string ⟨#[]⟩,.string ⟨cnn47.toArray⟩]] w fun e w'=>e=.returned (.int .i64 0)∧Below w.heap.size w w':=by
 have hc:OkK (⟨[65],2,false,0,0,[],cnn47⟩:CD):=(by refine ⟨⟨?_,?_,?_,?_,?_,?_,?_,?_⟩,?_,?_,?_⟩ <;> decide);have h:=q0v (⟨[65],2,false,0,0,[],cnn47⟩:CD) hc.ok hc.o hc.t hc.e w hE.env;rw [show chkC (⟨[65],2,false,0,0,[],cnn47⟩:CD)=true by kernel_rfl,if_pos rfl] at h;exact h
theorem cn_make:∃ o:Obj,∀ W:World,(Instr.makeSlice 22 (.int .i64 201) (.int .i64 201)).run Tryz.prog W=.ok (.slice (some ⟨W.heap.size,0,none⟩) 201 201) (W.alloc o):=by
 obtain ⟨i,z,hi,hz,-,hsz,hby⟩:=infoC;exact ⟨_,fun W=>run_make (P:=Tryz.prog) W 22 31 i z Tryz.underlying22 hi hz .i64 .i64 201 201 (by decide) (by decide) (by rw [hby]; decide) (by decide)⟩
theorem cardNames_walk (w:World) (hE:EnvP w) :
  Calls Tryz.prog 7 #[] w fun e w'=>e=.returned (.bool true)∧Below w.heap.size w w':=by
 have EN:=lh hE;have B0:Hid (Below w.heap.size w w):=Below.refl _ _;have CV:=lh (fun W (h:EnvP W)=>cn_value W h);have CO:=lh (fun W=>cn_of W);generalize frQ (Rat.divInt (-5) 2)=V at *;obtain ⟨⟨n1,l1⟩,n2,l2⟩:=V;clear hE;go_enter Tryz.func7,Tryz.ntmps7
 go_wp2_with fail
 refine (cn_p0 _ (EN.out.keep B0.out)).mono ?_;rintro xx w1 ⟨rfl,hb⟩;replace B0:=lh (q0a B0.out hb);clear hb;go_wp2_with fail
 refine (cn_p1 _ (EN.out.keep B0.out)).mono ?_;rintro xx w2 ⟨rfl,hb⟩;replace B0:=lh (q0a B0.out hb);clear hb;go_wp2_with fail
 refine (cn_p2 _ (EN.out.keep B0.out)).mono ?_;rintro xx w3 ⟨rfl,hb⟩;replace B0:=lh (q0a B0.out hb);clear hb;go_wp2_with fail
 refine (cn_p3 _ (EN.out.keep B0.out)).mono ?_;rintro xx w4 ⟨rfl,hb⟩;replace B0:=lh (q0a B0.out hb);clear hb;go_wp2_with fail
 refine (cn_p4 _ (EN.out.keep B0.out)).mono ?_;rintro xx w5 ⟨rfl,hb⟩;replace B0:=lh (q0a B0.out hb);clear hb;go_wp2_with fail
 refine (cn_r0 _ (EN.out.keep B0.out)).mono ?_;rintro xx w6 ⟨rfl,hb⟩;replace B0:=lh (q0a B0.out hb);clear hb;go_wp2_with fail
 refine (cn_r1 _ (EN.out.keep B0.out)).mono ?_;rintro xx w7 ⟨rfl,hb⟩;replace B0:=lh (q0a B0.out hb);clear hb;go_wp2_with fail
 refine (cn_r2 _ (EN.out.keep B0.out)).mono ?_;rintro xx w8 ⟨rfl,hb⟩;replace B0:=lh (q0a B0.out hb);clear hb;go_wp2_with fail
 refine (cn_r3 _ (EN.out.keep B0.out)).mono ?_;rintro xx w9 ⟨rfl,hb⟩;replace B0:=lh (q0a B0.out hb);clear hb;go_wp2_with fail
 refine (cn_r4 _ (EN.out.keep B0.out)).mono ?_;rintro xx w10 ⟨rfl,hb⟩;replace B0:=lh (q0a B0.out hb);clear hb;go_wp2_with fail
 refine (cn_r5 _ (EN.out.keep B0.out)).mono ?_;rintro xx w11 ⟨rfl,hb⟩;replace B0:=lh (q0a B0.out hb);clear hb;go_wp2_with fail
 refine (cn_r6 _ (EN.out.keep B0.out)).mono ?_;rintro xx w12 ⟨rfl,hb⟩;replace B0:=lh (q0a B0.out hb);clear hb;go_wp2_with fail
 refine (cn_w0 _ (EN.out.keep B0.out)).mono ?_;rintro xx w13 ⟨rfl,hb⟩;replace B0:=lh (q0a B0.out hb);clear hb;go_wp2_with fail
 refine (cn_w1 _ (EN.out.keep B0.out)).mono ?_;rintro xx w14 ⟨rfl,hb⟩;replace B0:=lh (q0a B0.out hb);clear hb;go_wp2_with fail
 refine (cn_w2 _ (EN.out.keep B0.out)).mono ?_;rintro xx w15 ⟨rfl,hb⟩;replace B0:=lh (q0a B0.out hb);clear hb;go_wp2_with fail
 refine (cn_w3 _ (EN.out.keep B0.out)).mono ?_;rintro xx w16 ⟨rfl,hb⟩;replace B0:=lh (q0a B0.out hb);clear hb;go_wp2_with fail
 refine (cn_w4 _ (EN.out.keep B0.out)).mono ?_;rintro xx w17 ⟨rfl,hb⟩;replace B0:=lh (q0a B0.out hb);clear hb;go_wp2_with fail
 refine (cn_w5 _ (EN.out.keep B0.out)).mono ?_;rintro xx w18 ⟨rfl,hb⟩;replace B0:=lh (q0a B0.out hb);clear hb;go_wp2_with fail
 refine (cn_w6 _ (EN.out.keep B0.out)).mono ?_;rintro xx w19 ⟨rfl,hb⟩;replace B0:=lh (q0a B0.out hb);clear hb;go_wp2_with fail
 refine (cn_w7 _ (EN.out.keep B0.out)).mono ?_;rintro xx w20 ⟨rfl,hb⟩;replace B0:=lh (q0a B0.out hb);clear hb;go_wp2_with fail
 refine (cn_w8 _ (EN.out.keep B0.out)).mono ?_;rintro xx w21 ⟨rfl,hb⟩;replace B0:=lh (q0a B0.out hb);clear hb;go_wp2_with fail
 refine (cn_w9 _ (EN.out.keep B0.out)).mono ?_;rintro xx w22 ⟨rfl,hb⟩;replace B0:=lh (q0a B0.out hb);clear hb;go_wp2_with fail
 refine (cn_w10 _ (EN.out.keep B0.out)).mono ?_;rintro xx w23 ⟨rfl,hb⟩;replace B0:=lh (q0a B0.out hb);clear hb;go_wp2_with fail
 refine (cn_w11 _ (EN.out.keep B0.out)).mono ?_;rintro xx w24 ⟨rfl,hb⟩;replace B0:=lh (q0a B0.out hb);clear hb;go_wp2_with fail
 refine (cn_w12 _ (EN.out.keep B0.out)).mono ?_;rintro xx w25 ⟨rfl,hb⟩;replace B0:=lh (q0a B0.out hb);clear hb;go_wp2_with fail
 refine (cn_w13 _ (EN.out.keep B0.out)).mono ?_;rintro xx w26 ⟨rfl,hb⟩;replace B0:=lh (q0a B0.out hb);clear hb;go_wp2_with fail
 refine (cnn66_r _).mono ?_;rintro xx w27 ⟨rfl,rfl⟩;have cnn66_sa:=cnn66_s;have cnW_ea:=cnW_e;have z1:(ByteArray.mk #[88,32,32,32,32,32,32,32,61,32,49,47]).size=12:=rfl;go_wp2_with fail
 refine (cn_w14 _ (EN.out.keep B0.out)).mono ?_;rintro xx w28 ⟨rfl,hb⟩;replace B0:=lh (q0a B0.out hb);clear hb;clear cnn66_sa cnW_ea z1;go_wp2_with fail
 refine (cna69_r _).mono ?_;rintro xx w29 ⟨rfl,rfl⟩;go_upto_region 5 with fail
 have L0:Hid (BlkV (w29.alloc (.cells #[.string ⟨#[76]⟩,.int .u8 5,.bool false,.int .i64 0,.int .i64 0,.string ⟨cna69.toArray⟩,.string ⟨#[]⟩] 31)) w29.heap.size 31 #[.string ⟨#[76]⟩,.int .u8 5,.bool false,.int .i64 0,.int .i64 0,.string ⟨cna69.toArray⟩,.string ⟨#[]⟩]):=BlkV.fresh rfl _ _;have hb:=blw1 w29 (.cells #[.string ⟨#[76]⟩,.int .u8 5,.bool false,.int .i64 0,.int .i64 0,.string ⟨cna69.toArray⟩,.string ⟨#[]⟩] 31);replace B0:=lh (q0a B0.out hb);clear hb;generalize (w29.alloc (.cells #[.string ⟨#[76]⟩,.int .u8 5,.bool false,.int .i64 0,.int .i64 0,.string ⟨cna69.toArray⟩,.string ⟨#[]⟩] 31))=v1 at *;generalize w29.heap.size=lb at *;go_wp2_with fail
 refine (cnq34_r _).mono ?_;rintro xx w30 ⟨rfl,rfl⟩;go_wp2_with fail
 refine (cnq68_r _).mono ?_;rintro xx w31 ⟨rfl,rfl⟩;have cnq68_sa:=cnq68_s;have cnX_ea:=cnX_e;have cnX_sa:=cnX_s;have cnY_ea:=cnY_e;have cnY_sa:=cnY_s;have z1:(ByteArray.mk #[76,32,32,32,32,32,32,32,61,32,39]).size=11:=rfl;have z2:(ByteArray.mk #[39]).size=1:=rfl;go_wp2_with fail
 refine (cn_p5 _ (EN.out.keep B0.out)).mono ?_;rintro xx w32 ⟨rfl,hb⟩;replace B0:=lh (q0a B0.out hb);replace L0:=lh (L0.out.keep hb);clear hb;clear cnq68_sa cnX_ea cnX_sa cnY_ea cnY_sa z1 z2;have j0:=L0.out.at_ 0 rfl;have j1:=L0.out.at_ 1 rfl;have j2:=L0.out.at_ 2 rfl;have j3:=L0.out.at_ 3 rfl;have j4:=L0.out.at_ 4 rfl;have j5:=L0.out.at_ 5 rfl;have j6:=L0.out.at_ 6 rfl;go_wp2_with fail
 clear j0 j1 j2 j3 j4 j5 j6;have KN:Hid (BlkV (w32.alloc (.cells #[.string ⟨#[76]⟩,.int .u8 5,.bool false,.int .i64 0,.int .i64 0,.string ⟨cna69.toArray⟩,.string ⟨#[]⟩] 31)) w32.heap.size 31 #[.string ⟨#[76]⟩,.int .u8 5,.bool false,.int .i64 0,.int .i64 0,.string ⟨cna69.toArray⟩,.string ⟨#[]⟩]):=BlkV.fresh rfl _ _;have SL:Hid (SlC (w32.alloc (.cells #[.string ⟨#[76]⟩,.int .u8 5,.bool false,.int .i64 0,.int .i64 0,.string ⟨cna69.toArray⟩,.string ⟨#[]⟩] 31)) (w32.heap.size+1) (some ⟨w32.heap.size,0,none⟩) [cnL] 1):=⟨RdV.of_blk (vs:=[cnL].flatMap CD.cells) KN.out,(fun x hx=>by rw [List.mem_singleton.1 hx]; exact cnL_ok),Nat.le_refl _,by simp⟩;have hb:=blw1 w32 (.cells #[.string ⟨#[76]⟩,.int .u8 5,.bool false,.int .i64 0,.int .i64 0,.string ⟨cna69.toArray⟩,.string ⟨#[]⟩] 31);replace B0:=lh (q0a B0.out hb);replace L0:=lh (L0.out.keep hb);clear hb;refine (cn_print _ _ _ _ SL.out (EN.out.keep B0.out)).mono ?_;rintro xx w33 ⟨rfl,hb⟩;replace B0:=lh (q0a B0.out hb);replace L0:=lh (L0.out.keep hb);clear hb;clear SL KN;go_wp2_with fail
 refine (cn_parse _ (EN.out.keep B0.out)).mono ?_;rintro xx w34 ⟨⟨A1,c1,rfl,hs⟩,hb⟩;replace B0:=lh (q0a B0.out hb);replace L0:=lh (L0.out.keep hb);clear hb;have S1:=lh hs;clear hs;go_upto_region 8 with fail
 obtain ⟨b,q0,hA,-,c0,c1,c2,c3,c4,c5,c6,-⟩:=S1.out.at_ (k:=0) Nat.one_pos;subst hA;simp only [List.getElem_cons_zero,Nat.zero_mul,Nat.add_zero] at c0 c1 c2 c3 c4 c5 c6;have d0:w34.cell? ⟨b,q0,none⟩=some (.string ⟨#[76]⟩):=c0;have d1:w34.cell? ⟨b,q0+1,none⟩=some (.int .u8 5):=c1;have d2:w34.cell? ⟨b,q0+2,none⟩=some (.bool false):=c2;have d3:w34.cell? ⟨b,q0+3,none⟩=some (.int .i64 0):=c3;have d4:w34.cell? ⟨b,q0+4,none⟩=some (.int .i64 0):=c4;have d5:w34.cell? ⟨b,q0+5,none⟩=some (.string ⟨cna69.toArray⟩):=c5;have d6:w34.cell? ⟨b,q0+6,none⟩=some (.string ⟨#[]⟩):=c6;clear c0 c1 c2 c3 c4 c5 c6;have j0:=L0.out.at_ 0 rfl;have j1:=L0.out.at_ 1 rfl;have j2:=L0.out.at_ 2 rfl;have j3:=L0.out.at_ 3 rfl;have j4:=L0.out.at_ 4 rfl;have j5:=L0.out.at_ 5 rfl;have j6:=L0.out.at_ 6 rfl;have cna67_sa:=cna67_s;have cnU_ea:=cnU_e;have cnU_sa:=cnU_s;have cnV_ea:=cnV_e;have cnV_sa:=cnV_s;have cnF_sa:=cnF_s;have cnS_ea:=cnS_e;have z1:(ByteArray.mk #[76,32,32,32,32,32,32,32,61,32,39]).size=11:=rfl;have z2:(ByteArray.mk #[38,39]).size=2:=rfl;go_quiet (first | (exact Calls.quiet_of_same (cna67_r _)) | (exact Calls.quiet_of_same (cnF_r _)))
 clear d0 d1 d2 d3 d4 d5 d6 z1 z2 cna67_sa cnU_ea cnU_sa cnV_ea cnV_sa cnF_sa cnS_ea;clear j0 j1 j2 j3 j4 j5 j6;have hb:Below w34.heap.size w34 (w34.drewN nq):=below_drewN (Below.refl _ _) nq;replace B0:=lh (q0a B0.out hb);replace L0:=lh (L0.out.keep hb);replace S1:=lh (S1.out.below hb);clear hb;generalize w34.drewN nq=v2 at *;obtain ⟨ob,hmk⟩:=cn_make;go_wp2_with fail
 refine (print_many 201 _ _ (by decide) _).mono ?_;rintro xx w35 ⟨rfl,hb⟩;replace hb:=q0a (blw1 v2 _) hb;clear hmk;replace B0:=lh (q0a B0.out hb);replace L0:=lh (L0.out.keep hb);replace S1:=lh (S1.out.below hb);clear hb;go_wp2_with fail
 refine (cn_form _ (EN.out.keep B0.out)).mono ?_;rintro xx w36 ⟨⟨A2,c2,rfl⟩,hb⟩;replace B0:=lh (q0a B0.out hb);replace L0:=lh (L0.out.keep hb);replace S1:=lh (S1.out.below hb);clear hb;go_wp2_with fail
 refine (cnsp_r _).mono ?_;rintro xx w37 ⟨rfl,rfl⟩;go_wp2_with fail
 refine (cn_many _ (EN.out.keep B0.out)).mono ?_;rintro xx w38 ⟨⟨A3,c3,rfl⟩,hb⟩;replace B0:=lh (q0a B0.out hb);replace L0:=lh (L0.out.keep hb);replace S1:=lh (S1.out.below hb);clear hb;go_wp2_with fail
 refine (cn_put _ _ _ _ (EN.out.keep B0.out)).mono ?_;rintro xx w39 ⟨rfl,hb⟩;replace B0:=lh (q0a B0.out hb);replace L0:=lh (L0.out.keep hb);replace S1:=lh (S1.out.below hb);clear hb;go_wp2_with fail
 refine (cn_find _ _ _ _ S1.out).mono ?_;rintro xx w40 ⟨rfl,hb⟩;replace B0:=lh (q0a B0.out hb);replace L0:=lh (L0.out.keep hb);replace S1:=lh (S1.out.below hb);clear hb;clear S1;go_wp2_with fail
 refine (CV.out _ (EN.out.keep B0.out)).mono ?_;rintro xx w41 ⟨A4,c4,A5,c5,rfl,sn,sd,hb⟩;replace B0:=lh (q0a B0.out hb);replace L0:=lh (L0.out.keep hb);clear hb;have N1:=lh sn;have D1:=lh sd;clear sn sd;dsimp only at N1 D1;dsimp only;go_upto_region 15 with fail
 have Q1:Hid (BlkV (w41.alloc (.cells #[.bool n1,.slice A4 l1.length c4,.bool n2,.slice A5 l2.length c5] 43)) w41.heap.size 43 #[.bool n1,.slice A4 l1.length c4,.bool n2,.slice A5 l2.length c5]):=BlkV.fresh rfl _ _;have hb:=blw1 w41 (.cells #[.bool n1,.slice A4 l1.length c4,.bool n2,.slice A5 l2.length c5] 43);replace B0:=lh (q0a B0.out hb);replace L0:=lh (L0.out.keep hb);replace N1:=lh (N1.out.below hb);replace D1:=lh (D1.out.below hb);clear hb;generalize (w41.alloc (.cells #[.bool n1,.slice A4 l1.length c4,.bool n2,.slice A5 l2.length c5] 43))=v11 at *;generalize w41.heap.size=qb1 at *;have k0:=L0.out.at_ 0 rfl;have k1:=L0.out.at_ 1 rfl;have k2:=L0.out.at_ 2 rfl;have k3:=L0.out.at_ 3 rfl;have k4:=L0.out.at_ 4 rfl;have k5:=L0.out.at_ 5 rfl;have k6:=L0.out.at_ 6 rfl;go_wp2_with fail
 refine (cn_none _ (EN.out.keep B0.out)).mono ?_;rintro xx w42 ⟨rfl,hb⟩;replace B0:=lh (q0a B0.out hb);replace L0:=lh (L0.out.keep hb);replace N1:=lh (N1.out.below hb);replace D1:=lh (D1.out.below hb);replace Q1:=lh (Q1.out.keep hb);clear hb;clear k0 k1 k2 k3 k4 k5 k6;go_upto_region 16 with fail
 have hb:=blw1 w42 (.cells #[.bool false,.slice none 0 0,.bool false,.slice none 0 0] 43);replace B0:=lh (q0a B0.out hb);replace L0:=lh (L0.out.keep hb);replace N1:=lh (N1.out.below hb);replace D1:=lh (D1.out.below hb);replace Q1:=lh (Q1.out.keep hb);clear hb;generalize w42.alloc (.cells #[.bool false,.slice none 0 0,.bool false,.slice none 0 0] 43)=v3 at *;go_wp2_with fail
 refine (cn_c0 _ (EN.out.keep B0.out)).mono ?_;rintro xx w43 ⟨rfl,hb⟩;replace B0:=lh (q0a B0.out hb);replace L0:=lh (L0.out.keep hb);replace N1:=lh (N1.out.below hb);replace D1:=lh (D1.out.below hb);replace Q1:=lh (Q1.out.keep hb);clear hb;go_wp2_with fail
 refine (cn_c1 _ (EN.out.keep B0.out)).mono ?_;rintro xx w44 ⟨rfl,hb⟩;replace B0:=lh (q0a B0.out hb);replace L0:=lh (L0.out.keep hb);replace N1:=lh (N1.out.below hb);replace D1:=lh (D1.out.below hb);replace Q1:=lh (Q1.out.keep hb);clear hb;go_wp2_with fail
 refine (cnn48_r _).mono ?_;rintro xx w45 ⟨rfl,rfl⟩;go_wp2_with fail
 refine (cn_c2 _ (EN.out.keep B0.out)).mono ?_;rintro xx w46 ⟨rfl,hb⟩;replace B0:=lh (q0a B0.out hb);replace L0:=lh (L0.out.keep hb);replace N1:=lh (N1.out.below hb);replace D1:=lh (D1.out.below hb);replace Q1:=lh (Q1.out.keep hb);clear hb;go_wp2_with fail
 refine (cnn47_r _).mono ?_;rintro xx w47 ⟨rfl,rfl⟩;go_wp2_with fail
 refine (cn_c3 _ (EN.out.keep B0.out)).mono ?_;rintro xx w48 ⟨rfl,hb⟩;replace B0:=lh (q0a B0.out hb);replace L0:=lh (L0.out.keep hb);replace N1:=lh (N1.out.below hb);replace D1:=lh (D1.out.below hb);replace Q1:=lh (Q1.out.keep hb);clear hb;go_wp2_with fail
 refine (CO.out _).mono ?_;rintro xx w49 ⟨A6,c6,A7,c7,rfl,sn,sd,hb⟩;replace B0:=lh (q0a B0.out hb);replace L0:=lh (L0.out.keep hb);replace N1:=lh (N1.out.below hb);replace D1:=lh (D1.out.below hb);replace Q1:=lh (Q1.out.keep hb);clear hb;have N2:=lh sn;have D2:=lh sd;clear sn sd;dsimp only at N2 D2;dsimp only;go_upto_region 18 with fail
 have Q2:Hid (BlkV (w49.alloc (.cells #[.bool n1,.slice A6 l1.length c6,.bool n2,.slice A7 l2.length c7] 43)) w49.heap.size 43 #[.bool n1,.slice A6 l1.length c6,.bool n2,.slice A7 l2.length c7]):=BlkV.fresh rfl _ _;have hb:=blw1 w49 (.cells #[.bool n1,.slice A6 l1.length c6,.bool n2,.slice A7 l2.length c7] 43);replace B0:=lh (q0a B0.out hb);replace L0:=lh (L0.out.keep hb);replace N1:=lh (N1.out.below hb);replace D1:=lh (D1.out.below hb);replace Q1:=lh (Q1.out.keep hb);replace N2:=lh (N2.out.below hb);replace D2:=lh (D2.out.below hb);clear hb;generalize (w49.alloc (.cells #[.bool n1,.slice A6 l1.length c6,.bool n2,.slice A7 l2.length c7] 43))=v12 at *;generalize w49.heap.size=qb2 at *;have sb1:sameB n1 l1 n1 l1=true:=(by simp [sameB]);have sb2:sameB n2 l2 n2 l2=true:=(by simp [sameB]);have k0:=Q1.out.at_ 0 rfl;have k1:=Q1.out.at_ 1 rfl;have m0:=Q2.out.at_ 0 rfl;have m1:=Q2.out.at_ 1 rfl;go_wp2_with fail
 refine (same_any n1 n1 A4 A6 l1 l1 c4 c6 _ N1.out N2.out).mono ?_;rintro xx w50 ⟨rfl,hb⟩;replace B0:=lh (q0a B0.out hb);replace L0:=lh (L0.out.keep hb);replace N1:=lh (N1.out.below hb);replace D1:=lh (D1.out.below hb);replace Q1:=lh (Q1.out.keep hb);replace N2:=lh (N2.out.below hb);replace D2:=lh (D2.out.below hb);replace Q2:=lh (Q2.out.keep hb);clear hb;rw [sb1];clear k0 k1 m0 m1;have k2:=Q1.out.at_ 2 rfl;have k3:=Q1.out.at_ 3 rfl;have m2:=Q2.out.at_ 2 rfl;have m3:=Q2.out.at_ 3 rfl;go_wp2_with fail
 refine (same_any n2 n2 A5 A7 l2 l2 c5 c7 _ D1.out D2.out).mono ?_;rintro xx w51 ⟨rfl,hb⟩;replace B0:=lh (q0a B0.out hb);replace L0:=lh (L0.out.keep hb);replace N1:=lh (N1.out.below hb);replace D1:=lh (D1.out.below hb);replace Q1:=lh (Q1.out.keep hb);replace N2:=lh (N2.out.below hb);replace D2:=lh (D2.out.below hb);replace Q2:=lh (Q2.out.keep hb);clear hb;rw [sb2];clear k2 k3 m2 m3;go_wp2_with fail
 refine (alive8_any _ (EN.out.keep B0.out)).mono ?_;rintro xx w52 ⟨rfl,hb⟩;replace B0:=lh (q0a B0.out hb);replace L0:=lh (L0.out.keep hb);replace N1:=lh (N1.out.below hb);replace D1:=lh (D1.out.below hb);replace Q1:=lh (Q1.out.keep hb);replace N2:=lh (N2.out.below hb);replace D2:=lh (D2.out.below hb);replace Q2:=lh (Q2.out.keep hb);clear hb;go_wp2_with fail
 go_ret
 exact ⟨rfl,B0.out⟩
end Go.Proofs.YtcpofeehpijbcaaGreatDoor