/- Laws for the row. No condition. -/
import Derived.Test.YtgghcmbaidihjaaGreatDoorRfY
import Derived.Lib.ItoaNum
import Derived.Lib.Bytealg
namespace Go.Proofs.YtgghcmbaidihjaaGreatDoor
open Go.Sm
def uL:List (List UInt8×Int):=[([112,117,115,104],1),([108,111,97,100],1),([115,116,111,114,101],1),([109,97,99,104,105,110,101],0),([97,100,100],0),([115,117,98],0),([109,117,108],0),([108,101,115,115],0),([109,111,115,116],0),([101,113,117,97,108],0),([106,117,109,112],1),([122,101,114,111],1),([99,97,108,108],1),([98,97,99,107],0),([99,104,101,99,107],2),([97,108,108,111,99],1),([103,101,116],1),([112,117,116],1),([103,111],1),([115,101,110,100],1),([114,101,99,118],2),([97,99,113,117,105,114,101],1),([114,101,108,101,97,115,101],1),([100,114,97,119],2),([110,111,119],1),([115,108,101,101,112],1),([119,114,105,116,101],1),([114,101,97,100],2),([101,110,100],0)]
def tW:List Int:=[1116352408,1899447441,3049323471,3921009573,961987163,1508970993,2453635748,2870763221,3624381080,310598401,607225278,1426881987,1925078388,2162078206,2614888103,3248222580,3835390401,4022224774,264347078,604807628,770255983,1249150122,1555081692,1996064986,2554220882,2821834349,2952996808,3210313671,3336571891,3584528711,113926993,338241895,666307205,773529912,1294757372,1396182291,1695183700,1986661051,2177026350,2456956037,2730485921,2820302411,3259730800,3345764771,3516065817,3600352804,4094571909,275423344,430227734,506948616,659060556,883997877,958139571,1322822218,1537002063,1747873779,1955562222,2024104815,2227730452,2361852424,2428436474,2756734187,3204031479,3329325298]
def pN:List Int:=[1116352408,1899447441,3049323471,3921009573,961987163,1508970993,2453635748,2870763221,3624381080,310598401,607225278,1426881987,1925078388,2162078206,2614888103,3248222580,3835390401,4022224774,264347078,604807628,770255983,1249150122,1555081692,1996064986,2554220882,2821834349,2952996808,3210313671,3336571891,3584528711,113926993,338241895,666307205,773529912,1294757372,1396182291,1695183700,1986661051,2177026350,2456956037,2730485921,2820302411,3259730800,3345764771,3516065817,3600352804,4094571909,275423344,430227734,506948616,659060556,883997877,958139571,1322822218,1537002063,1747873779,1955562222,2024104815,2227730452,2361852424,2428436474,2756734187,3204031479,3329325298]
def FI(a b:Int×Int×Bool):Bool:=decide (a.1<b.1)||(a.1==b.1&&decide (a.2.1<=b.2.1))
def wH(x:Int×Int×Bool):List (Int×Int×Bool)->List (Int×Int×Bool)
  |[]=>[x]
  |y::r=>bif FI x y then x::y::r else y::wH x r
def Du:List (Int×Int×Bool)->List (Int×Int×Bool)
  |[]=>[]
  |x::r=>wH x (Du r)
def zY(m:List ((Int×Int×Bool)×Bool)):List (Int×Int×Bool):=Du (m.map λp=>(p.1.1,p.1.2.1,p.2))
def GY(x:Int×Int×Bool)(l:List ((Int×Int×Bool)×Bool)):Bool:=l.all λp=>!(p.1.1==x.1&&p.1.2.1==x.2.1)
def uN:List ((Int×Int×Bool)×Bool)->Bool
  |[]=>true
  |p::r=>decide (0<=p.1.1/\p.1.1<1099511627776/\0<=p.1.2.1/\p.1.2.1<1099511627776)&&GY p.1 r&&uN r
def rP(m:List ((Int×Int×Bool)×Bool)):Bool:=Nat.ble m.length 12&&uN m
def sR:Nat->Nat->List UInt8
  |0,_=>[]
  |k+1,n=>if n<10 then [UInt8.ofNat (48+n)]else sR k (n / 10)++[UInt8.ofNat (48+n%10)]
def axx:Option (List Int)->Value
  |some xs=>.iface 118 (.agg (HF 16 xs).toArray)
  |none=>.iface 232 (.agg (HF 0 []).toArray)
def uu(t:Nat)(d:Option (List Int)):Option (List Int):=bif Nat.beq t 118 then d else bif d.isSome then none else some []
instance:XTab:=⟨λ_=>Option (List Int),λ_ d=>axx d,λ_ d=>by cases d<;>rfl,λ_=>none,λn=>bif Nat.beq n 23 then 360315457980334103 else bif Nat.beq n 148 then 1547425049178947864405999764 else bif Nat.beq n 152 then 1870727804774333205280220053793449448177874923159704 else bif Nat.beq n 210 then 1870727804774333205280220054090958536662434246033618 else bif Nat.beq n 211 then 1547425049179017133638549715 else 0,
  λt=>bif Nat.beq t 118 then some 0 else bif Nat.beq t 232 then some 0 else none,λt=>bif Nat.beq t 118 then 16 else 0,λ_ t xs=>bif Nat.beq t 118 then some xs else none,λ_ t d=>uu t d,
  fun t n xs h=>by
    cases h1:Nat.beq t 118
    · cases h2:Nat.beq t 232
      ·simp[h1,h2]at h
      · obtain rfl:=f9 h2
        rfl
    · obtain rfl:=f9 h1
      rfl,
  fun t n d h=>by
    cases h1:Nat.beq t 118
    · cases h2:Nat.beq t 232
      ·simp[h1,h2]at h
      · obtain rfl:=f9 h2
        cases d with
        |none=>exact⟨λxs hx=>(by cases hx;rfl),λhx=>(by cases hx)⟩
        |some y=>exact⟨λxs hx=>(by cases hx),λ_=>⟨118,_,rfl,(by decide)⟩⟩
    · obtain rfl:=f9 h1
      cases d with
      |none=>exact⟨λxs hx=>(by cases hx),λ_=>⟨232,_,rfl,(by decide)⟩⟩
      |some y=>exact⟨λxs hx=>(by cases hx;rfl),λhx=>(by cases hx)⟩⟩
end Go.Proofs.YtgghcmbaidihjaaGreatDoor
