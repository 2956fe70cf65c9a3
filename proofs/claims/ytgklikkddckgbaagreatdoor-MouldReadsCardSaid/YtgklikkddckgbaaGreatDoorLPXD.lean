import Derived.Test.YtgklikkddckgbaaGreatDoorLPXC
import Derived.Shelf.SlicesE.Clone
/- Lemmas. -/
set_option linter.all false
namespace Go.Proofs
open Go.Shelf
def Tryz.Ui:Go.Shelf.Ren:=⟨fun|41=>84|n=>n,fun|22=>75|23=>81|4=>4|n=>n,fun|n=>n⟩
theorem Tryz.zq6:Go.Proofs.SlLaysE0.n41 Tryz.prog Tryz.Ui:={
  mixed:=by kernel_rfl
  f41:=⟨Tryz.f84.name,by decide,Tryz.func84.trans (congrArg some (by kernel_rfl))⟩
  t4:=Tryz.underlying4
  a4:=Tryz.isAgg4
  z4:=Tryz.sizeOf4
  v4:=Tryz.zeroValue4
  t22:=Tryz.underlying75
  a22:=Tryz.isAgg75
  z22:=Tryz.sizeOf75
  v22:=Tryz.zeroValue75}
def Tryz.Uj:Go.Shelf.Ren:=⟨fun|41=>85|n=>n,fun|22=>76|23=>83|4=>4|n=>n,fun|n=>n⟩
theorem Tryz.zq7:Go.Proofs.SlLaysE0.n41 Tryz.prog Tryz.Uj:={
  mixed:=by kernel_rfl
  f41:=⟨Tryz.f85.name,by decide,Tryz.func85.trans (congrArg some (by kernel_rfl))⟩
  t4:=Tryz.underlying4
  a4:=Tryz.isAgg4
  z4:=Tryz.sizeOf4
  v4:=Tryz.zeroValue4
  t22:=Tryz.underlying76
  a22:=Tryz.isAgg76
  z22:=Tryz.sizeOf76
  v22:=Tryz.zeroValue76}
def Tryz.Uk:Go.Shelf.Ren:=⟨fun|41=>86|n=>n,fun|22=>77|23=>85|4=>4|n=>n,fun|n=>n⟩
theorem Tryz.zq8:Go.Proofs.SlLaysE0.n41 Tryz.prog Tryz.Uk:={
  mixed:=by kernel_rfl
  f41:=⟨Tryz.f86.name,by decide,Tryz.func86.trans (congrArg some (by kernel_rfl))⟩
  t4:=Tryz.underlying4
  a4:=Tryz.isAgg4
  z4:=Tryz.sizeOf4
  v4:=Tryz.zeroValue4
  t22:=Tryz.underlying77
  a22:=Tryz.isAgg77
  z22:=Tryz.sizeOf77
  v22:=Tryz.zeroValue77}
namespace YtgklikkddckgbaaGreatDoor
open Go.RowKit Go.Lib
theorem zs4:Tryz.prog.info? 81=some Tryz.t81:=by kernel_rfl
theorem zs5:Tryz.t81.zero=some (.agg #[.string ⟨#[]⟩,.slice none 0 0]):=by kernel_rfl
theorem zs6:Tryz.t81.size=2:=by kernel_rfl
theorem zpN:Tryz.t81.bytes=40:=by kernel_rfl
theorem zor (B n:Nat) (v:Value) (xs:List Value) (w:World) (h:w.ownsRow B 81 2 v n xs) (h1:∀u∈xs,u.oneCell'=true) (hn:n<=1000):
    Calls Tryz.prog 84 #[v] w λe w'=>∃v',e=.returned v'/\w'.ownsRow w.heap.size 81 2 v' n xs/\Below w.heap.size w w':=by
  rcases h.2 with⟨rfl,rfl⟩|⟨g,cap,cur,rfl,_⟩
  · refine(AnyE.slices_Clone_nil Tryz.zq6 0 0 w).mono ?_
    rintro e w' ⟨rfl,rfl⟩;exact⟨_,rfl,⟨h.1,.inl ⟨rfl,rfl⟩⟩,qb _ _⟩
  · refine(AnyE.slices_Clone Tryz.zq6 _ _ 2 40 zs4 zs5 zs6 zpN rfl (by decide) Tryz.sizeOf81 g 0 n cap xs w h.1 (by unfold maxLen;omega) (by omega) ?_ h1).mono ?_
    · intro j u hu
      rw[Nat.zero_add,h.cellAt j (by have:=(List.getElem?_eq_some_iff.1 hu).1;rw[h.1] at this;exact this),hu]
    · rintro e w' ⟨v',rfl,ho,_,hb⟩
      exact⟨v',rfl,ho,hb⟩
theorem zs7:Tryz.prog.info? 83=some Tryz.t83:=by kernel_rfl
theorem zs8:Tryz.t83.zero=some (.agg #[.string ⟨#[]⟩,.int .i64 0]):=by kernel_rfl
theorem zs9:Tryz.t83.size=2:=by kernel_rfl
theorem zpO:Tryz.t83.bytes=24:=by kernel_rfl
theorem zm6 (B n:Nat) (v:Value) (xs:List Value) (w:World) (h:w.ownsRow B 83 2 v n xs) (h1:∀u∈xs,u.oneCell'=true) (hn:n<=1000):
    Calls Tryz.prog 85 #[v] w λe w'=>∃v',e=.returned v'/\w'.ownsRow w.heap.size 83 2 v' n xs/\Below w.heap.size w w':=by
  rcases h.2 with⟨rfl,rfl⟩|⟨g,cap,cur,rfl,_⟩
  · refine(AnyE.slices_Clone_nil Tryz.zq7 0 0 w).mono ?_
    rintro e w' ⟨rfl,rfl⟩;exact⟨_,rfl,⟨h.1,.inl ⟨rfl,rfl⟩⟩,qb _ _⟩
  · refine(AnyE.slices_Clone Tryz.zq7 _ _ 2 24 zs7 zs8 zs9 zpO rfl (by decide) Tryz.sizeOf83 g 0 n cap xs w h.1 (by unfold maxLen;omega) (by omega) ?_ h1).mono ?_
    · intro j u hu
      rw[Nat.zero_add,h.cellAt j (by have:=(List.getElem?_eq_some_iff.1 hu).1;rw[h.1] at this;exact this),hu]
    · rintro e w' ⟨v',rfl,ho,_,hb⟩
      exact⟨v',rfl,ho,hb⟩
theorem zta:Tryz.prog.info? 85=some Tryz.t85:=by kernel_rfl
theorem ztb:Tryz.t85.zero=some (.agg #[.int .i64 0,.int .i64 0]):=by kernel_rfl
theorem ztc:Tryz.t85.size=2:=by kernel_rfl
theorem zpP:Tryz.t85.bytes=16:=by kernel_rfl
theorem zos (B n:Nat) (v:Value) (xs:List Value) (w:World) (h:w.ownsRow B 85 2 v n xs) (h1:∀u∈xs,u.oneCell'=true) (hn:n<=1000):
    Calls Tryz.prog 86 #[v] w λe w'=>∃v',e=.returned v'/\w'.ownsRow w.heap.size 85 2 v' n xs/\Below w.heap.size w w':=by
  rcases h.2 with⟨rfl,rfl⟩|⟨g,cap,cur,rfl,_⟩
  · refine(AnyE.slices_Clone_nil Tryz.zq8 0 0 w).mono ?_
    rintro e w' ⟨rfl,rfl⟩;exact⟨_,rfl,⟨h.1,.inl ⟨rfl,rfl⟩⟩,qb _ _⟩
  · refine(AnyE.slices_Clone Tryz.zq8 _ _ 2 16 zta ztb ztc zpP rfl (by decide) Tryz.sizeOf85 g 0 n cap xs w h.1 (by unfold maxLen;omega) (by omega) ?_ h1).mono ?_
    · intro j u hu
      rw[Nat.zero_add,h.cellAt j (by have:=(List.getElem?_eq_some_iff.1 hu).1;rw[h.1] at this;exact this),hu]
    · rintro e w' ⟨v',rfl,ho,_,hb⟩
      exact⟨v',rfl,ho,hb⟩
end YtgklikkddckgbaaGreatDoor
end Go.Proofs
