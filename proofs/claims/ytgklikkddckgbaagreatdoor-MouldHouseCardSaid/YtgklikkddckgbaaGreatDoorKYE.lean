import Derived.Test.YtgklikkddckgbaaGreatDoorKEA
/- Lemmas. -/
set_option linter.all false
set_option maxRecDepth 100000
set_option maxHeartbeats 4000000
namespace Go.Proofs.YtgklikkddckgbaaGreatDoor.Mo
open Go.RowKit
def hN0:List UInt8:=[98,97,108,108,97,100]
def hS0:List UInt8:=[114,111,117,110,100,32,49,32,50,53,32,49,32,120,47,56,32,97,47,54,32,120,47,56,32,97,47,54]
def hN1:List UInt8:=[99,111,117,112,108,101,116,115]
def hS1:List UInt8:=[114,111,117,110,100,32,49,32,50,53,32,49,32,97,58,112,32,97,58,112]
def XP:List UInt8:=[103,104,97,122,97,108]
def hS2:List UInt8:=[115,116,97,110,122,97,32,97,32,97,64,49,124,114,111,117,110,100,32,48,32,57,57,32,48,32,120,32,97,64,50]
def hN3:List UInt8:=[104,97,105,107,117]
def Qt:List UInt8:=[115,116,97,110,122,97,32,120,47,53,32,120,47,55,32,120,47,53]
def hN4:List UInt8:=[108,105,109,101,114,105,99,107]
def Ke:List UInt8:=[115,116,97,110,122,97,32,97,47,56,32,97,47,56,32,98,47,53,32,98,47,53,32,97,47,56]
def hN5:List UInt8:=[111,116,116,97,118,97,32,114,105,109,97]
def hS5:List UInt8:=[115,116,97,110,122,97,32,97,58,112,32,98,58,112,32,97,58,112,32,98,58,112,32,97,58,112,32,98,58,112,32,99,58,112,32,99,58,112]
def hN6:List UInt8:=[112,97,110,116,111,117,109]
def hS6:List UInt8:=[115,116,97,110,122,97,32,97,32,98,32,97,32,98,124,114,111,117,110,100,32,48,32,50,51,32,49,32,98,94,51,32,99,32,98,94,51,32,99]
def hN7:List UInt8:=[112,101,116,114,97,114,99,104,97,110,32,115,111,110,110,101,116]
def hS7:List UInt8:=[115,116,97,110,122,97,32,97,58,112,32,98,58,112,32,98,58,112,32,97,58,112,32,97,58,112,32,98,58,112,32,98,58,112,32,97,58,112,124,115,116,97,110,122,97,32,99,58,112,32,100,58,112,32,101,58,112,32,99,58,112,32,100,58,112,32,101,58,112]
def hN8:List UInt8:=[115,101,115,116,105,110,97]
def hS8:List UInt8:=[115,116,97,110,122,97,32,120,32,120,32,120,32,120,32,120,32,120,124,114,111,117,110,100,32,53,32,53,32,48,32,120,64,49,32,120,64,55,32,120,64,52,32,120,64,56,32,120,64,55,32,120,64,57,124,115,116,97,110,122,97,32,120,64,51,126,54,32,120,64,51,126,54,32,120,64,51,126,54]
def hN9:List UInt8:=[115,111,110,110,101,116]
def Zl:List UInt8:=[115,116,97,110,122,97,32,97,58,112,32,98,58,112,32,97,58,112,32,98,58,112,124,115,116,97,110,122,97,32,99,58,112,32,100,58,112,32,99,58,112,32,100,58,112,124,115,116,97,110,122,97,32,101,58,112,32,102,58,112,32,101,58,112,32,102,58,112,124,115,116,97,110,122,97,32,103,58,112,32,103,58,112]
def YO:List UInt8:=[116,101,114,122,97,32,114,105,109,97]
def hS10:List UInt8:=[114,111,117,110,100,32,49,32,50,52,32,49,32,97,58,112,32,98,58,112,32,97,58,112,124,115,116,97,110,122,97,32,97,58,112]
def YP:List UInt8:=[116,114,105,111,108,101,116]
def hS11:List UInt8:=[115,116,97,110,122,97,32,65,49,32,66,49,32,97,32,65,49,94,51,32,97,32,98,32,65,49,94,54,32,66,49,94,54]
def YQ:List UInt8:=[118,105,108,108,97,110,101,108,108,101]
def hS12:List UInt8:=[115,116,97,110,122,97,32,65,49,32,98,32,65,50,124,115,116,97,110,122,97,32,97,32,98,32,65,49,94,53,124,115,116,97,110,122,97,32,97,32,98,32,65,50,94,54,124,115,116,97,110,122,97,32,97,32,98,32,65,49,94,54,124,115,116,97,110,122,97,32,97,32,98,32,65,50,94,54,124,115,116,97,110,122,97,32,97,32,98,32,65,49,94,54,32,65,50,94,52]
def QS:List (List UInt8×List UInt8):=[(hN0,hS0),(hN1,hS1),(XP,hS2),(hN3,Qt),(hN4,Ke),(hN5,hS5),(hN6,hS6),(hN7,hS7),(hN8,hS8),(hN9,Zl),(YO,hS10),(YP,hS11),(YQ,hS12)]
def vu (n:List UInt8):List UInt8:=match QS.find? (λp=>p.1==n) with|some p=>p.2|none=>[]
theorem znb {n:List UInt8} (h:∀p∈QS,(p.1==n)=false):vu n=[]:=by
  unfold vu;have:QS.find? (λp=>p.1==n)=none:=kl.2 λp hp=>by rw[h p hp];simp
  rw[this]
theorem vp {n:ByteArray} {l:List UInt8} (h:n.data.toList=l):n=⟨l.toArray⟩:=by
  apply kq;apply xu.1;rw[h]
theorem vz {n:ByteArray} {l:List UInt8} (h:¬n.data.toList=l):(n.toList==l)=false:=by
  rw[qL];simpa using h
theorem znc (n:ByteArray) (w:World):Calls Tryz.prog 40 #[.string n] w λe w'=>e=.returned (.string ⟨(vu n.data.toList).toArray⟩)/\w=w':=by
  by_cases h0:n.data.toList=hN0
  · obtain rfl:=vp h0
    have e:vu (⟨hN0.toArray⟩:ByteArray).data.toList=hS0:=(by decide+kernel);rw[e];unfold hN0;clear h0 e;go_enter zQ,zK;go_wp2_with fail;go_ret;exact⟨rfl,rfl⟩
  by_cases h1:n.data.toList=hN1
  · obtain rfl:=vp h1
    have e:vu (⟨hN1.toArray⟩:ByteArray).data.toList=hS1:=(by decide+kernel);rw[e];unfold hN1;clear h1 h0 e;go_enter zQ,zK;go_wp2_with fail;go_ret;exact⟨rfl,rfl⟩
  by_cases h2:n.data.toList=XP
  · obtain rfl:=vp h2
    have e:vu (⟨XP.toArray⟩:ByteArray).data.toList=hS2:=(by decide+kernel);rw[e];unfold XP;clear h2 h0 h1 e;go_enter zQ,zK;go_wp2_with fail;go_ret;exact⟨rfl,rfl⟩
  by_cases h3:n.data.toList=hN3
  · obtain rfl:=vp h3
    have e:vu (⟨hN3.toArray⟩:ByteArray).data.toList=Qt:=(by decide+kernel);rw[e];unfold hN3;clear h3 h0 h1 h2 e;go_enter zQ,zK;go_wp2_with fail;go_ret;exact⟨rfl,rfl⟩
  by_cases h4:n.data.toList=hN4
  · obtain rfl:=vp h4
    have e:vu (⟨hN4.toArray⟩:ByteArray).data.toList=Ke:=(by decide+kernel);rw[e];unfold hN4;clear h4 h0 h1 h2 h3 e;go_enter zQ,zK;go_wp2_with fail;go_ret;exact⟨rfl,rfl⟩
  by_cases h5:n.data.toList=hN5
  · obtain rfl:=vp h5
    have e:vu (⟨hN5.toArray⟩:ByteArray).data.toList=hS5:=(by decide+kernel);rw[e];unfold hN5;clear h5 h0 h1 h2 h3 h4 e;go_enter zQ,zK;go_wp2_with fail;go_ret;exact⟨rfl,rfl⟩
  by_cases h6:n.data.toList=hN6
  · obtain rfl:=vp h6
    have e:vu (⟨hN6.toArray⟩:ByteArray).data.toList=hS6:=(by decide+kernel);rw[e];unfold hN6;clear h6 h0 h1 h2 h3 h4 h5 e;go_enter zQ,zK;go_wp2_with fail;go_ret;exact⟨rfl,rfl⟩
  by_cases h7:n.data.toList=hN7
  · obtain rfl:=vp h7
    have e:vu (⟨hN7.toArray⟩:ByteArray).data.toList=hS7:=(by decide+kernel);rw[e];unfold hN7;clear h7 h0 h1 h2 h3 h4 h5 h6 e;go_enter zQ,zK;go_wp2_with fail;go_ret;exact⟨rfl,rfl⟩
  by_cases h8:n.data.toList=hN8
  · obtain rfl:=vp h8
    have e:vu (⟨hN8.toArray⟩:ByteArray).data.toList=hS8:=(by decide+kernel);rw[e];unfold hN8;clear h8 h0 h1 h2 h3 h4 h5 h6 h7 e;go_enter zQ,zK;go_wp2_with fail;go_ret;exact⟨rfl,rfl⟩
  by_cases h9:n.data.toList=hN9
  · obtain rfl:=vp h9
    have e:vu (⟨hN9.toArray⟩:ByteArray).data.toList=Zl:=(by decide+kernel);rw[e];unfold hN9;clear h9 h0 h1 h2 h3 h4 h5 h6 h7 h8 e;go_enter zQ,zK;go_wp2_with fail;go_ret;exact⟨rfl,rfl⟩
  by_cases h10:n.data.toList=YO
  · obtain rfl:=vp h10
    have e:vu (⟨YO.toArray⟩:ByteArray).data.toList=hS10:=(by decide+kernel);rw[e];unfold YO;clear h10 h0 h1 h2 h3 h4 h5 h6 h7 h8 h9 e;go_enter zQ,zK;go_wp2_with fail;go_ret;exact⟨rfl,rfl⟩
  by_cases h11:n.data.toList=YP
  · obtain rfl:=vp h11
    have e:vu (⟨YP.toArray⟩:ByteArray).data.toList=hS11:=(by decide+kernel);rw[e];unfold YP;clear h11 h0 h1 h2 h3 h4 h5 h6 h7 h8 h9 h10 e;go_enter zQ,zK;go_wp2_with fail;go_ret;exact⟨rfl,rfl⟩
  by_cases h12:n.data.toList=YQ
  · obtain rfl:=vp h12
    have e:vu (⟨YQ.toArray⟩:ByteArray).data.toList=hS12:=(by decide+kernel);rw[e];unfold YQ;clear h12 h0 h1 h2 h3 h4 h5 h6 h7 h8 h9 h10 h11 e;go_enter zQ,zK;go_wp2_with fail;go_ret;exact⟨rfl,rfl⟩
  have e:vu n.data.toList=[]:=znb (by
    intro p hp;simp only[QS,zi,kZ,yJ] at hp;rcases hp with rfl|rfl|rfl|rfl|rfl|rfl|rfl|rfl|rfl|rfl|rfl|rfl|rfl
    · simpa using λe=>h0 e.symm
    · simpa using λe=>h1 e.symm
    · simpa using λe=>h2 e.symm
    · simpa using λe=>h3 e.symm
    · simpa using λe=>h4 e.symm
    · simpa using λe=>h5 e.symm
    · simpa using λe=>h6 e.symm
    · simpa using λe=>h7 e.symm
    · simpa using λe=>h8 e.symm
    · simpa using λe=>h9 e.symm
    · simpa using λe=>h10 e.symm
    · simpa using λe=>h11 e.symm
    · simpa using λe=>h12 e.symm
    )
  rw[e];have g0:(n.toList==[98,97,108,108,97,100])=false:=vz h0;have g1:(n.toList==[99,111,117,112,108,101,116,115])=false:=vz h1;have g2:(n.toList==[103,104,97,122,97,108])=false:=vz h2;have g3:(n.toList==[104,97,105,107,117])=false:=vz h3;have g4:(n.toList==[108,105,109,101,114,105,99,107])=false:=vz h4;have g5:(n.toList==[111,116,116,97,118,97,32,114,105,109,97])=false:=vz h5;have g6:(n.toList==[112,97,110,116,111,117,109])=false:=vz h6;have g7:(n.toList==[112,101,116,114,97,114,99,104,97,110,32,115,111,110,110,101,116])=false:=vz h7;have g8:(n.toList==[115,101,115,116,105,110,97])=false:=vz h8;have g9:(n.toList==[115,111,110,110,101,116])=false:=vz h9;have g10:(n.toList==[116,101,114,122,97,32,114,105,109,97])=false:=vz h10;have g11:(n.toList==[116,114,105,111,108,101,116])=false:=vz h11;have g12:(n.toList==[118,105,108,108,97,110,101,108,108,101])=false:=vz h12;clear h0 h1 h2 h3 h4 h5 h6 h7 h8 h9 h10 h11 h12 e;go_enter zQ,zK;go_wp2_with fail;go_ret;exact⟨rfl,rfl⟩
def hT0:List UInt8:=[102,111,114,109,32,98,97,108,108,97,100,10,114,111,117,110,100,32,49,32,50,53,32,49,32,120,47,56,32,97,47,54,32,120,47,56,32,97,47,54]
def hT1:List UInt8:=[102,111,114,109,32,99,111,117,112,108,101,116,115,10,109,101,116,114,101,32,112,32,53,32,105,97,109,98,59,32,97,110,121,32,115,112,111,110,100,101,101,32,49,44,32,112,121,114,114,104,105,99,32,49,44,32,116,114,111,99,104,101,101,32,49,59,32,101,110,100,32,120,32,49,10,114,111,117,110,100,32,49,32,50,53,32,49,32,97,58,112,32,97,58,112]
def hT2:List UInt8:=[102,111,114,109,32,103,104,97,122,97,108,10,115,116,97,110,122,97,32,97,32,97,64,49,10,114,111,117,110,100,32,48,32,57,57,32,48,32,120,32,97,64,50]
def Jh:List UInt8:=[102,111,114,109,32,104,97,105,107,117,10,115,116,97,110,122,97,32,120,47,53,32,120,47,55,32,120,47,53]
def hT4:List UInt8:=[102,111,114,109,32,108,105,109,101,114,105,99,107,10,115,116,97,110,122,97,32,97,47,56,32,97,47,56,32,98,47,53,32,98,47,53,32,97,47,56]
def hT5:List UInt8:=[102,111,114,109,32,111,116,116,97,118,97,32,114,105,109,97,10,109,101,116,114,101,32,112,32,53,32,105,97,109,98,59,32,97,110,121,32,115,112,111,110,100,101,101,32,49,44,32,112,121,114,114,104,105,99,32,49,44,32,116,114,111,99,104,101,101,32,49,59,32,101,110,100,32,120,32,49,10,115,116,97,110,122,97,32,97,58,112,32,98,58,112,32,97,58,112,32,98,58,112,32,97,58,112,32,98,58,112,32,99,58,112,32,99,58,112]
def hT6:List UInt8:=[102,111,114,109,32,112,97,110,116,111,117,109,10,115,116,97,110,122,97,32,97,32,98,32,97,32,98,10,114,111,117,110,100,32,48,32,50,51,32,49,32,98,94,51,32,99,32,98,94,51,32,99]
def hT7:List UInt8:=[102,111,114,109,32,112,101,116,114,97,114,99,104,97,110,32,115,111,110,110,101,116,10,109,101,116,114,101,32,112,32,53,32,105,97,109,98,59,32,97,110,121,32,115,112,111,110,100,101,101,32,49,44,32,112,121,114,114,104,105,99,32,49,44,32,116,114,111,99,104,101,101,32,49,59,32,101,110,100,32,120,32,49,10,115,116,97,110,122,97,32,97,58,112,32,98,58,112,32,98,58,112,32,97,58,112,32,97,58,112,32,98,58,112,32,98,58,112,32,97,58,112,10,115,116,97,110,122,97,32,99,58,112,32,100,58,112,32,101,58,112,32,99,58,112,32,100,58,112,32,101,58,112]
def hT8:List UInt8:=[102,111,114,109,32,115,101,115,116,105,110,97,10,115,116,97,110,122,97,32,120,32,120,32,120,32,120,32,120,32,120,10,114,111,117,110,100,32,53,32,53,32,48,32,120,64,49,32,120,64,55,32,120,64,52,32,120,64,56,32,120,64,55,32,120,64,57,10,115,116,97,110,122,97,32,120,64,51,126,54,32,120,64,51,126,54,32,120,64,51,126,54]
def hT9:List UInt8:=[102,111,114,109,32,115,111,110,110,101,116,10,109,101,116,114,101,32,112,32,53,32,105,97,109,98,59,32,97,110,121,32,115,112,111,110,100,101,101,32,49,44,32,112,121,114,114,104,105,99,32,49,44,32,116,114,111,99,104,101,101,32,49,59,32,101,110,100,32,120,32,49,10,115,116,97,110,122,97,32,97,58,112,32,98,58,112,32,97,58,112,32,98,58,112,10,115,116,97,110,122,97,32,99,58,112,32,100,58,112,32,99,58,112,32,100,58,112,10,115,116,97,110,122,97,32,101,58,112,32,102,58,112,32,101,58,112,32,102,58,112,10,115,116,97,110,122,97,32,103,58,112,32,103,58,112]
def hT10:List UInt8:=[102,111,114,109,32,116,101,114,122,97,32,114,105,109,97,10,109,101,116,114,101,32,112,32,53,32,105,97,109,98,59,32,97,110,121,32,115,112,111,110,100,101,101,32,49,44,32,112,121,114,114,104,105,99,32,49,44,32,116,114,111,99,104,101,101,32,49,59,32,101,110,100,32,120,32,49,10,114,111,117,110,100,32,49,32,50,52,32,49,32,97,58,112,32,98,58,112,32,97,58,112,10,115,116,97,110,122,97,32,97,58,112]
def hT11:List UInt8:=[102,111,114,109,32,116,114,105,111,108,101,116,10,115,116,97,110,122,97,32,65,49,32,66,49,32,97,32,65,49,94,51,32,97,32,98,32,65,49,94,54,32,66,49,94,54]
def hT12:List UInt8:=[102,111,114,109,32,118,105,108,108,97,110,101,108,108,101,10,115,116,97,110,122,97,32,65,49,32,98,32,65,50,10,115,116,97,110,122,97,32,97,32,98,32,65,49,94,53,10,115,116,97,110,122,97,32,97,32,98,32,65,50,94,54,10,115,116,97,110,122,97,32,97,32,98,32,65,49,94,54,10,115,116,97,110,122,97,32,97,32,98,32,65,50,94,54,10,115,116,97,110,122,97,32,97,32,98,32,65,49,94,54,32,65,50,94,52]
def Kb:List (List UInt8×List UInt8):=[(hN0,hT0),(hN1,hT1),(XP,hT2),(hN3,Jh),(hN4,hT4),(hN5,hT5),(hN6,hT6),(hN7,hT7),(hN8,hT8),(hN9,hT9),(YO,hT10),(YP,hT11),(YQ,hT12)]
def yX (n:List UInt8):List UInt8:=match Kb.find? (λp=>p.1==n) with|some p=>p.2|none=>[]
theorem znG {n:List UInt8} (h:∀p∈Kb,(p.1==n)=false):yX n=[]:=by
  unfold yX;have:Kb.find? (λp=>p.1==n)=none:=kl.2 λp hp=>by rw[h p hp];simp
  rw[this]
theorem znH (n:ByteArray) (w:World) (hn:n.size<=4611686018427387904):Calls Tryz.prog 27 #[.string n] w λe w'=>e=.returned (.string ⟨(yX n.data.toList).toArray⟩)/\w=w':=by
  have z1:¬(9223372036854775807<5+n.size):=by omega
  have z2:¬(9223372036854775807<5+n.size+1):=by omega
  by_cases h0:n.data.toList=hN0
  · obtain rfl:=vp h0
    have e:yX (⟨hN0.toArray⟩:ByteArray).data.toList=hT0:=(by decide+kernel);rw[e];unfold hN0;clear h0 e z1 z2 hn;go_enter zV,zP;go_wp2_with fail;go_ret;exact⟨congrArg (λx=>Ending.returned (Value.string x)) (by decide+kernel),rfl⟩
  by_cases h1:n.data.toList=hN1
  · obtain rfl:=vp h1
    have e:yX (⟨hN1.toArray⟩:ByteArray).data.toList=hT1:=(by decide+kernel);rw[e];unfold hN1;clear h1 h0 e z1 z2 hn;go_enter zV,zP;go_wp2_with fail;go_ret;exact⟨congrArg (λx=>Ending.returned (Value.string x)) (by decide+kernel),rfl⟩
  by_cases h2:n.data.toList=XP
  · obtain rfl:=vp h2
    have e:yX (⟨XP.toArray⟩:ByteArray).data.toList=hT2:=(by decide+kernel);rw[e];unfold XP;clear h2 h0 h1 e z1 z2 hn;go_enter zV,zP;go_wp2_with fail;go_ret;exact⟨congrArg (λx=>Ending.returned (Value.string x)) (by decide+kernel),rfl⟩
  by_cases h3:n.data.toList=hN3
  · obtain rfl:=vp h3
    have e:yX (⟨hN3.toArray⟩:ByteArray).data.toList=Jh:=(by decide+kernel);rw[e];unfold hN3;clear h3 h0 h1 h2 e z1 z2 hn;go_enter zV,zP;go_wp2_with fail;go_ret;exact⟨congrArg (λx=>Ending.returned (Value.string x)) (by decide+kernel),rfl⟩
  by_cases h4:n.data.toList=hN4
  · obtain rfl:=vp h4
    have e:yX (⟨hN4.toArray⟩:ByteArray).data.toList=hT4:=(by decide+kernel);rw[e];unfold hN4;clear h4 h0 h1 h2 h3 e z1 z2 hn;go_enter zV,zP;go_wp2_with fail;go_ret;exact⟨congrArg (λx=>Ending.returned (Value.string x)) (by decide+kernel),rfl⟩
  by_cases h5:n.data.toList=hN5
  · obtain rfl:=vp h5
    have e:yX (⟨hN5.toArray⟩:ByteArray).data.toList=hT5:=(by decide+kernel);rw[e];unfold hN5;clear h5 h0 h1 h2 h3 h4 e z1 z2 hn;go_enter zV,zP;go_wp2_with fail;go_ret;exact⟨congrArg (λx=>Ending.returned (Value.string x)) (by decide+kernel),rfl⟩
  by_cases h6:n.data.toList=hN6
  · obtain rfl:=vp h6
    have e:yX (⟨hN6.toArray⟩:ByteArray).data.toList=hT6:=(by decide+kernel);rw[e];unfold hN6;clear h6 h0 h1 h2 h3 h4 h5 e z1 z2 hn;go_enter zV,zP;go_wp2_with fail;go_ret;exact⟨congrArg (λx=>Ending.returned (Value.string x)) (by decide+kernel),rfl⟩
  by_cases h7:n.data.toList=hN7
  · obtain rfl:=vp h7
    have e:yX (⟨hN7.toArray⟩:ByteArray).data.toList=hT7:=(by decide+kernel);rw[e];unfold hN7;clear h7 h0 h1 h2 h3 h4 h5 h6 e z1 z2 hn;go_enter zV,zP;go_wp2_with fail;go_ret;exact⟨congrArg (λx=>Ending.returned (Value.string x)) (by decide+kernel),rfl⟩
  by_cases h8:n.data.toList=hN8
  · obtain rfl:=vp h8
    have e:yX (⟨hN8.toArray⟩:ByteArray).data.toList=hT8:=(by decide+kernel);rw[e];unfold hN8;clear h8 h0 h1 h2 h3 h4 h5 h6 h7 e z1 z2 hn;go_enter zV,zP;go_wp2_with fail;go_ret;exact⟨congrArg (λx=>Ending.returned (Value.string x)) (by decide+kernel),rfl⟩
  by_cases h9:n.data.toList=hN9
  · obtain rfl:=vp h9
    have e:yX (⟨hN9.toArray⟩:ByteArray).data.toList=hT9:=(by decide+kernel);rw[e];unfold hN9;clear h9 h0 h1 h2 h3 h4 h5 h6 h7 h8 e z1 z2 hn;go_enter zV,zP;go_wp2_with fail;go_ret;exact⟨congrArg (λx=>Ending.returned (Value.string x)) (by decide+kernel),rfl⟩
  by_cases h10:n.data.toList=YO
  · obtain rfl:=vp h10
    have e:yX (⟨YO.toArray⟩:ByteArray).data.toList=hT10:=(by decide+kernel);rw[e];unfold YO;clear h10 h0 h1 h2 h3 h4 h5 h6 h7 h8 h9 e z1 z2 hn;go_enter zV,zP;go_wp2_with fail;go_ret;exact⟨congrArg (λx=>Ending.returned (Value.string x)) (by decide+kernel),rfl⟩
  by_cases h11:n.data.toList=YP
  · obtain rfl:=vp h11
    have e:yX (⟨YP.toArray⟩:ByteArray).data.toList=hT11:=(by decide+kernel);rw[e];unfold YP;clear h11 h0 h1 h2 h3 h4 h5 h6 h7 h8 h9 h10 e z1 z2 hn;go_enter zV,zP;go_wp2_with fail;go_ret;exact⟨congrArg (λx=>Ending.returned (Value.string x)) (by decide+kernel),rfl⟩
  by_cases h12:n.data.toList=YQ
  · obtain rfl:=vp h12
    have e:yX (⟨YQ.toArray⟩:ByteArray).data.toList=hT12:=(by decide+kernel);rw[e];unfold YQ;clear h12 h0 h1 h2 h3 h4 h5 h6 h7 h8 h9 h10 h11 e z1 z2 hn;go_enter zV,zP;go_wp2_with fail;go_ret;exact⟨congrArg (λx=>Ending.returned (Value.string x)) (by decide+kernel),rfl⟩
  have e:yX n.data.toList=[]:=znG (by
    intro p hp;simp only[Kb,zi,kZ,yJ] at hp;rcases hp with rfl|rfl|rfl|rfl|rfl|rfl|rfl|rfl|rfl|rfl|rfl|rfl|rfl
    · simpa using λe=>h0 e.symm
    · simpa using λe=>h1 e.symm
    · simpa using λe=>h2 e.symm
    · simpa using λe=>h3 e.symm
    · simpa using λe=>h4 e.symm
    · simpa using λe=>h5 e.symm
    · simpa using λe=>h6 e.symm
    · simpa using λe=>h7 e.symm
    · simpa using λe=>h8 e.symm
    · simpa using λe=>h9 e.symm
    · simpa using λe=>h10 e.symm
    · simpa using λe=>h11 e.symm
    · simpa using λe=>h12 e.symm
    )
  rw[e];have g0:(n.toList==[98,97,108,108,97,100])=false:=vz h0;have g1:(n.toList==[99,111,117,112,108,101,116,115])=false:=vz h1;have g2:(n.toList==[103,104,97,122,97,108])=false:=vz h2;have g3:(n.toList==[104,97,105,107,117])=false:=vz h3;have g4:(n.toList==[108,105,109,101,114,105,99,107])=false:=vz h4;have g5:(n.toList==[111,116,116,97,118,97,32,114,105,109,97])=false:=vz h5;have g6:(n.toList==[112,97,110,116,111,117,109])=false:=vz h6;have g7:(n.toList==[112,101,116,114,97,114,99,104,97,110,32,115,111,110,110,101,116])=false:=vz h7;have g8:(n.toList==[115,101,115,116,105,110,97])=false:=vz h8;have g9:(n.toList==[115,111,110,110,101,116])=false:=vz h9;have g10:(n.toList==[116,101,114,122,97,32,114,105,109,97])=false:=vz h10;have g11:(n.toList==[116,114,105,111,108,101,116])=false:=vz h11;have g12:(n.toList==[118,105,108,108,97,110,101,108,108,101])=false:=vz h12;clear h0 h1 h2 h3 h4 h5 h6 h7 h8 h9 h10 h11 h12 e;go_enter zV,zP;go_wp2_with fail;go_ret;exact⟨rfl,rfl⟩
def zsI (T:ByteArray) (w:World) (e:Ending) (w':World):Prop:=Below w.heap.size w w'/\∃f fb vl vm vs,Q2 T=.ok f/\e=.returned (.tuple #[.pointer (some ⟨fb,0,none⟩),.int .i64 0])/\px w' w.heap.size fb f vl vm vs/\pb f T.size
def YR:ByteArray:=⟨#[109,101,116,114,101,32,112,32,53,32,105,97,109,98,59,32,97,110,121,32,115,112,111,110,100,101,101,32,49,44,32,112,121,114,114,104,105,99,32,49,44,32,116,114,111,99,104,101,101,32,49,59,32,101,110,100,32,120,32,49,10]⟩
theorem zo2 (n S R T:ByteArray) (b:Bool) (w:World) (hv:Vars w) (hm:Xf w) (hh:vu n.data.toList=S.data.toList) (hn:n.size<=100) (hS:S.size<=1000) (hS0:0<S.size)
    (hc:Lib.contains S.data.toList (⟨#[58,112]⟩:ByteArray).data.toList=b) (hR:(⟨(Lib.replaceAll S.data.toList (⟨#[124]⟩:ByteArray).data.toList (⟨#[10]⟩:ByteArray).data.toList).toArray⟩:ByteArray)=R) (hRs:R.size<=1000) (hcb:S.size+Lib.countB S ⟨#[124]⟩*(⟨#[10]⟩:ByteArray).size<=140737488355328)
    (hT:((⟨#[102,111,114,109,32]⟩:ByteArray)++n++⟨#[10]⟩++(if b then YR else⟨#[]⟩))++R=T) (hTs:T.size<=4611686018427387904) (hok:∃f,Q2 T=.ok f):
    Calls Tryz.prog 20 #[.string n] w (zsI T w):=by
  obtain⟨m,hm⟩:=hm;have Hh:=znc n w;rw[hh] at Hh;have eS:(⟨S.data.toList.toArray⟩:ByteArray)=S:=by simp
  rw[eS] at Hh;have hcc:=Tryz.strings_Contains S ⟨#[58,112]⟩ m w (by omega) hm;rw[hc] at hcc;have Hc:=qh (zfS hcc);have hr:=Tryz.strings_ReplaceAll S ⟨#[124]⟩ ⟨#[10]⟩ m w (by omega) hm (by decide) hcb;rw[hR] at hr;have Hr:=qh hr;have Hv:=qh hv;have HH:=qh Hh;have hne:S.toList.isEmpty=false:=zdh hS0;have hne2:(!S.toList.isEmpty)=true:=by rw[hne];rfl
  have Z7:S.toList≠[]:=by intro h;rw[h] at hne;cases hne
  have hne4:(S.toList==[])=false:=by simpa using Z7
  have Hok:=qh hok;have HT:=qh hT;have z1:¬(9223372036854775807<5+n.size):=by omega
  have z2:¬(9223372036854775807<5+n.size+1):=by omega
  have hP:YR.size=61:=rfl;have z3:¬(9223372036854775807<5+n.size+1+61):=by omega
  have z4:¬(9223372036854775807<5+n.size+1+61+R.size):=by omega
  have z5:¬(9223372036854775807<5+n.size+1+R.size):=by omega
  clear hm hcc hr hv hh hc hR hT hok Hh eS Z7;go_enter Tryz.func20,Tryz.ntmps20;go_wp2_with fail;refine HH.out.mono ?_;rintro e w2 ⟨rfl,rfl⟩;go_wp2_with fail;refine Hc.out.mono ?_;rintro e w2 ⟨rfl,rfl⟩;cases b with|false=>?_|true=>?_
  go_wp2_with fail;refine Hr.out.mono ?_;rintro e w2 ⟨rfl,hb2⟩;have Hb2:=qh hb2;have hv2:=Vars.below Hv.out hb2 Hv.out.six;have Hf:=qh (zf7 T w2 hv2 hTs);clear hb2 hv2;go_wp2_with fail
  have VN:((⟨#[102,111,114,109,32]⟩:ByteArray)++n++⟨#[10]⟩++R)=T:=by
   have:=HT.out;simp only[kj,yC] at this;rw[<-this];apply kq;simp
  rotate_left
  go_wp2_with fail;refine Hr.out.mono ?_;rintro e w2 ⟨rfl,hb2⟩;have Hb2:=qh hb2;have hv2:=Vars.below Hv.out hb2 Hv.out.six;have Hf:=qh (zf7 T w2 hv2 hTs);clear hb2 hv2;go_wp2_with fail
  have VN:((⟨#[102,111,114,109,32]⟩:ByteArray)++n++⟨#[10]⟩++YR++R)=T:=by
   have:=HT.out;simp only[kV] at this;exact this
  unfold YR at VN
  all_goals
   rw[VN];clear VN;refine Hf.out.mono ?_;rintro e w3 ⟨hb3,hr3⟩;obtain⟨f,hf⟩:=Hok.out;rw[hf] at hr3;obtain⟨fb,vl,vm,vs,rfl,hm3,hk3⟩:=hr3
   have gI:Hid (Below w.heap.size w (w3.alloc (.cells #[.int .i64 0,.int .i64 0] 87))/\∃f vl vm vs,Q2 T=.ok f/\px (w3.alloc (.cells #[.int .i64 0,.int .i64 0] 87)) w.heap.size fb f vl vm vs/\pb f T.size):=qh
     ⟨(Hb2.out.trans (hb3.mono Hb2.out.size)).alloc (by have:=Hb2.out.size;have:=hb3.size;omega) _,f,vl,vm,vs,hf,(hm3.below ((qb _ _).alloc (ql _) _)).mono Hb2.out.size,hk3⟩
   clear hf hb3 hm3 hk3;go_wp2_with fail;go_ret2;obtain⟨hb,f,vl,vm,vs,hf,hm,hk⟩:=gI.out;exact⟨hb,f,fb,vl,vm,vs,hf,rfl,hm,hk⟩
theorem zta {T:ByteArray} (h:(match Q2 T with|.ok _=>true|.error _=>false)=true):∃f,Q2 T=.ok f:=by
  cases hf:Q2 T with
  |error e=>rw[hf] at h;cases h
  |ok f=>exact⟨f,rfl⟩
def ofB (n S T:List UInt8):Bool:=
  (vu n==S)&&decide (n.length<=100)&&decide (S.length<=1000)&&decide (0<S.length)&&decide ((Lib.replaceAll S [124] [10]).length<=1000)&&decide (T.length<=4000)&&decide (S.length+Lib.countB ⟨S.toArray⟩ ⟨#[124]⟩<=100000)&&
  ((zqI++(n++([10]++((if Lib.contains S [58,112] then YR.data.toList else [])++Lib.replaceAll S [124] [10]))))==T)&&(match Q2 ⟨T.toArray⟩ with|.ok f=>f.name==n|.error _=>false)
where zqI:List UInt8:=[102,111,114,109,32]
theorem zpt {n S T:List UInt8} (h:ofB n S T=true) (w:World) (hv:Vars w) (hm:Xf w):Calls Tryz.prog 20 #[.string ⟨n.toArray⟩] w (zsI ⟨T.toArray⟩ w):=by
  unfold ofB at h;simp only[qz,qC,jw] at h;obtain⟨⟨⟨⟨⟨⟨⟨⟨h1,h2⟩,h3⟩,h4⟩,h5⟩,h6⟩,h9⟩,h7⟩,h8⟩:=h;have sz:∀l:List UInt8,(⟨l.toArray⟩:ByteArray).size=l.length:=λl=>by show Array.size _=_;simp
  refine zo2 ⟨n.toArray⟩ ⟨S.toArray⟩ ⟨(Lib.replaceAll S [124] [10]).toArray⟩ ⟨T.toArray⟩ (Lib.contains S [58,112]) w hv hm (by simpa using h1) (by rw[sz];exact h2) (by rw[sz];exact h3) (by rw[sz];exact h4) (by simp) (by simp) (by rw[sz];exact h5) (by rw[sz];show S.length+Lib.countB ⟨S.toArray⟩ ⟨#[124]⟩*1<=_;omega) ?_ (by rw[sz];omega) ?_
  · apply kq
    apply xu.1;simp only[qG,qK];rw[<-h7];cases Lib.contains S [58,112]<;>simp[ofB.zqI]
  · apply zta
    cases hf:Q2 ⟨T.toArray⟩ with
    |error e=>rw[hf] at h8;cases h8
    |ok f=>rfl
theorem zom:∀i:Nat,i<13->ofB (QS.getD i ([],[])).1 (QS.getD i ([],[])).2 (Kb.getD i ([],[])).2=true:=by decide+kernel
theorem zpu (n:ByteArray) (w:World) (hh:vu n.data.toList=[]):
    Calls Tryz.prog 20 #[.string n] w λe w'=>e=.returned (.tuple #[.pointer none,.int .i64 4])/\w=w':=by
  have Hh:=znc n w;rw[hh] at Hh;have HH:=qh Hh;clear Hh hh;go_enter Tryz.func20,Tryz.ntmps20;go_wp2_with fail;refine HH.out.mono ?_;rintro e w2 ⟨rfl,rfl⟩;go_wp2_with fail;go_ret2;exact⟨rfl,rfl⟩
end Go.Proofs.YtgklikkddckgbaaGreatDoor.Mo
namespace Go.Proofs.YtgklikkddckgbaaGreatDoor.Mo
open Go.RowKit Go.Shelf Go.Lib
attribute [local go_sem] kN
def Qr (m:Nat):List UInt8:=(QS.getD m ([],[])).1
def K5:List UInt8:=QS.flatMap λp=>p.1++[124]
def HB1:ByteArray:=⟨K5.toArray⟩
def HB0:ByteArray:=⟨(K5.take 120).toArray⟩
def zsJ (a b:Nat):List UInt8:=((K5.take 120).drop a).take (b-a)
def znd:List UInt8->Nat->Nat->Nat->Bool
  |[],i,a,m=>decide (m=13)
  |c::l,i,a,m=>decide (c.toNat<128)&&(if c=124 then decide (a<=i)&&decide (i<=120)&&decide (m<13)&&(zsJ a i==Qr m)&&znd l (i+1) (i+1) (m+1) else znd l (i+1) a m)
theorem uZ:K5.length=121:=by decide+kernel
theorem znI:znd K5 0 0 0=true:=by decide+kernel
theorem znJ:HB1.size=121:=by
  have:HB1.size=K5.length:=by simp[HB1,ByteArray.size]
  rw[this,uZ]
theorem zo3:HB0.size=120:=by
  have:HB0.size=(K5.take 120).length:=by simp[HB0,ByteArray.size]
  rw[this,kF,uZ];rfl
theorem zpv (i:Nat) (h:i<HB1.size):K5.drop i=HB1[i]::K5.drop (i+1):=by
  have hl:i<K5.length:=by rw[uZ];rw[znJ] at h;exact h
  rw[zk hl];congr 1
theorem zpw (a i:Nat):HB0.extract a i=⟨(zsJ a i).toArray⟩:=by
  unfold zsJ HB0;apply kq;simp[kz]
theorem zbg {a b:UInt8} (h:a.toNat=b.toNat):a=b:=ji.1 h
theorem zox (F:Fence) (n:Nat) (hf:F.fn 56) (hro:F.round=none) (hn:1<=n) (w:World):
    zlh F n Tryz.prog 56 #[] (λj:Nat=>#[.string ⟨(Qr j).toArray⟩]) (λxs=>xs=List.range 13) (λpre=>∃m,m<13/\pre=List.range (m+1)) 13 w:=λl J Jx W hW hJ hJx hY h0=>by
  refine callsIn_of_wp Tryz.func56 rfl hf ?_ hro;simp only[Tryz.ntmps56,jo,qB,qE,Nat.reduceAdd,Nat.reduceSub,kP,kQ,jn,kY,kx,zO];generalize hT:(ByteArray.mk (List.toArray (List.append _ _)))=T0;have hT2:T0=HB1:=by rw[<-hT];kernel_rfl
  clear hT;subst hT2;generalize hT:(ByteArray.mk (List.toArray (List.append _ _)))=T0;have hT2:T0=HB0:=by rw[<-hT];kernel_rfl
  clear hT;subst hT2;have hsz:=znJ;have hsz0:=zo3;gi_wp2;have hWs:=hW.size
  gi_loopw [2,3,4] (λa v3 v4 wr=>∃(i a' m:Nat),a=.int .i64 a'/\i<=121/\znd (K5.drop i) i a' m=true/\wr.heap[W.heap.size]?=some (.stringIter HB1 i)/\J (List.range m) wr)
    (λ_ _ _ wr=>121-wr.iterPos W.heap.size)
  case atStart=>
    refine⟨0,0,0,rfl,by omega,znI,qn W _,hJ.alloc _ h0⟩
  case round=>
    obtain⟨i,a,m,rfl,hi,hsc,hI,hJm⟩:=hrel;by_cases hlt:i<121
    · have hil:i<HB1.size:=by omega
      rw[zpv i hil] at hsc;unfold znd at hsc;rw[qz] at hsc;obtain⟨Jk,hsc⟩:=hsc;have Jk:=zf Jk;have hnx:(Instr.next (.pointer (some ⟨W.heap.size,0,none⟩)) true 0).run Tryz.prog wr=.ok (.tuple #[.bool true,.int .i64 i,.int .i32 (HB1[i]'hil).toNat]) (wr.iterAt W.heap.size HB1 (i+1)):=run_next_ascii_at wr _ HB1 i 0 hI hil Jk;have hI1:=iterAt_heap wr W.heap.size HB1 i (i+1) hI;have hJ1:J (List.range m) (wr.iterAt W.heap.size HB1 (i+1)):=hJ _ _ _ (some W.heap.size) hJm ⟨rfl,rfl,rfl,by rw[iterAt_size];exact ql _,λj _ hj=>iterAt_other wr _ _ HB1 _ (λe=>hj (by rw[e]))⟩ (λr e=>by cases e;omega);have hpos:wr.iterPos W.heap.size=i:=(by unfold World.iterPos;rw[hI]);have Hpos:=qh hpos;clear hpos;by_cases zpV:HB1[i]=124
      · rw[qx zpV] at hsc
        simp only[qz,qC,jw] at hsc;obtain⟨⟨⟨⟨hai,hi120⟩,YK⟩,hcut⟩,hsc⟩:=hsc;have ht:(((HB1[i]'hil).toNat:Int)==124)=true:=(by rw[zpV];rfl);have hex:=zpw a i;rw[hcut] at hex;have b1:(0:Int)<=(a:Int):=(by omega);have b2:(a:Int)<=(i:Int):=(by omega);have b3:(i:Int)<=(HB0.size:Int):=(by omega);obtain⟨fn,tmps,assign,body,hy,hR⟩:=hY (List.range m) m _ hJ1 (by simpa using YK);have Xs:=qh hsc;have HR:=qh hR;rw[<-hex] at hy;clear hsc hcut hR zpV hex;generalize hw1:wr.iterAt W.heap.size HB1 (i+1)=w1 at*;gi_wp2;refine HR.out.mono ?_;rintro e W4 (⟨rfl,hJ4,hk4⟩|⟨rfl,zrK⟩)
        · have hI4:=hk4.2 W.heap.size _ (by omega) hI1 (.inr rfl)
          gi_wp2;go_roundw
          case rel=>exact⟨i+1,i+1,m+1,by go_num,by omega,Xs.out,hI4,by rw[zR];exact hJ4⟩
          case measure=>
            have:W4.iterPos W.heap.size=i+1:=(by unfold World.iterPos;rw[hI4]);rw[this,Hpos.out];omega
        · gi_wp2
          refine zv (qI rfl _ _ _) rfl ?_;exact⟨⟨_,rfl⟩,.inr ⟨List.range (m+1),⟨m,YK,rfl⟩,by rw[zR];exact zrK⟩⟩
      · rw[qv zpV] at hsc
        have ht:(((HB1[i]'hil).toNat:Int)==124)=false:=by
          simp only[zr,ne_eq];intro e;exact zpV (zbg (b:=124) (by have:(124:UInt8).toNat=124:=rfl;omega))
        have Xs:=qh hsc;clear hsc zpV;generalize hw1:wr.iterAt W.heap.size HB1 (i+1)=w1 at*;gi_wp2;go_roundw
        case rel=>exact⟨i+1,a,m,rfl,by omega,Xs.out,hI1,hJ1⟩
        case measure=>
          have:w1.iterPos W.heap.size=i+1:=(by unfold World.iterPos;rw[hI1]);rw[this,Hpos.out];omega
    · obtain rfl:i=121:=by omega
      have hd:K5.drop 121=[]:=kA (by rw[uZ];omega);rw[hd] at hsc;have hm:m=13:=(by simpa [znd] using hsc);have hnx:(Instr.next (.pointer (some ⟨W.heap.size,0,none⟩)) true 0).run Tryz.prog wr=.ok (.tuple #[.bool false]) wr:=run_next_end_at wr _ HB1 121 0 hI (by omega);subst hm;gi_wp2;go_end0;exact⟨⟨_,rfl⟩,.inl ⟨List.range 13,rfl,hJm⟩⟩
end Go.Proofs.YtgklikkddckgbaaGreatDoor.Mo

