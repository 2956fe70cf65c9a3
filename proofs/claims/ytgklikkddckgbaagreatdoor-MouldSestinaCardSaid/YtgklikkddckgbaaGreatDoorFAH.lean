import Derived.Test.YtgklikkddckgbaaGreatDoorFAF
import Derived.Test.YtgklikkddckgbaaGreatDoorFAG
/- Lemmas of the claim. -/
namespace Go.Proofs.YtgklikkddckgbaaGreatDoor.Mo
set_option linter.unusedVariables false
set_option linter.unusedSimpArgs false
open Go.RowKit
set_option maxRecDepth 100000 in
set_option maxHeartbeats 8000000 in
theorem item_any (Bl rb fb : Nat) (s : ByteArray) (i : Nat) (line : Int) (letters : List UInt8) (vl : Value) (w : World) (h : Rd w rb fb s i) (hv : Vars w) (h9 : 9 ≤ rb) (hl : LetM w Bl fb letters vl) (hfs : fb < w.heap.size) (hfr : fb ≠ rb) (hvl : ∀ k,vl.ownBlock = some k → k ≠ rb) (hvs : ∀ k,vl.ownBlock = some k → k < w.heap.size) :
  Calls Tryz.prog 117 #[.pointer (some ⟨rb,0,none⟩), .int .i64 line] w (ItemOk rb fb s letters w (itemP s letters line i)):=by
 have hsz:=h.sz
 have hle:=h.le
 have hrb:=h.lt
 have hw9:=hv.six
 obtain ⟨q0,q1,q2,q3⟩:=h.cells
 generalize hR : itemP s letters line i = R
 have HR:=Lib.hid hR
 have H:=Lib.hid h
 have Hv:=Lib.hid hv
 have Hl:=Lib.hid hl
 clear hR h hv hl
 go_enter Tryz.func117,Tryz.ntmps117
 go_wp2_with fail
 refine wp_scope_one rfl (JI w rb fb s letters line i R) ?pass ?first
 case first =>
  intro hp
  have hbA : Below w.heap.size w ((w.alloc (.cells zC 108)).alloc (.cells (itC letters 0 0 [] i (.slice none 0 0)) 108)):=((Below.refl _ w).alloc (Nat.le_refl _) _).alloc (by simp) _
  have sA : (w.alloc (.cells zC 108)).heap.size = w.heap.size + 1:=by simp
  have hP : ((w.alloc (.cells zC 108)).alloc (.cells (itC letters 0 0 [] i (.slice none 0 0)) 108)).heap[w.heap.size]? = some (.cells zC 108 (0,0)):=(Below.heap_alloc _ _ _ (by omega)).trans (World.alloc_heap_new w _)
  have hX : ((w.alloc (.cells zC 108)).alloc (.cells (itC letters 0 0 [] i (.slice none 0 0)) 108)).heap[w.heap.size + 1]? = some (.cells (itC letters 0 0 [] i (.slice none 0 0)) 108 (0,0)):=by
   have:=World.alloc_heap_new (w.alloc (.cells zC 108)) (.cells (itC letters 0 0 [] i (.slice none 0 0)) 108)
   rw [sA] at this; exact this
  have hrh:=rhyme_any rb fb s i _ (H.out.below hbA)
  generalize hW1 : (w.alloc (.cells zC 108)).alloc (.cells (itC letters 0 0 [] i (.slice none 0 0)) 108) = W1 at *
  have HW1 : Hid ((w.alloc (.cells #[.int .i64 0, .int .i64 0, .int .i64 0, .int .u8 0, .int .i64 0, .int .i64 0, .int .i64 0, .slice none 0 0, .int .i32 0, .int .i64 0, .int .i64 0, .bool false, .bool false] 108)).alloc (.cells #[.int .i64 0, .int .i64 0, .int .i64 (-1), .int .u8 0, .int .i64 0, .int .i64 0, .int .i64 0, .slice none 0 0, .int .i32 0, .int .i64 i, .int .i64 (-1), .bool false, .bool false] 108) = W1):=Lib.hid hW1
  have Hrh:=Lib.hid hrh
  have HbA:=Lib.hid hbA
  have HP:=Lib.hid hP
  have HX:=Lib.hid hX
  have sW1 : W1.heap.size = w.heap.size + 2:=by rw [← hW1]; simp
  clear hrh hbA hP hX hW1 sA
  go_wp2_with fail
  rw [HW1.out]
  refine Hrh.out.mono ?_
  rintro e w2 ⟨ho,hres⟩
  have hof : Off [rb] w w2:=Off.new (L:= [rb]) (Off.of_below HbA.out (Nat.le_refl _) [rb]) ho (fun k hk => .inl (by simpa using hk))
  cases hrm : rhymeP s i with
  | error ep =>
   obtain ⟨c,p⟩:=ep
   rw [hrm] at hres
   have he : e = PanE c p:=hres
   have hR : R = .error (c,p):=by rw [← HR.out]; unfold itemP; rw [hrm]
   subst he
   refine ⟨rfl,hof,?_⟩
   rw [hR]
   rfl
  | ok crj =>
   obtain ⟨cls,ref,j0⟩:=crj
   rw [hrm] at hres
   obtain ⟨rfl,hrd⟩:=hres
   have HT : Hid (tailP s line i cls ref (marksP s letters (s.size + 1) [] j0) = R):=Lib.hid (by rw [← HR.out]; exact (itemP_tail hrm).symm)
   have hX2:=(ho.block _ (by omega) (by simp; omega)).trans HX.out
   have hP2:=(ho.block _ (by omega) (by simp; omega)).trans HP.out
   have y0 : w2.cell? ⟨w.heap.size + 1,0,none⟩ = some (.int .i64 0):=cell_of_row _ _ 0 _ _ (0,0) hX2
   have y1 : w2.cell? ⟨w.heap.size + 1,1,none⟩ = some (.int .i64 0):=cell_of_row _ _ 1 _ _ (0,0) hX2
   have z0:=frozen_of_row _ _ 0 _ _ hX2
   have z1:=frozen_of_row _ _ 1 _ _ hX2
   have hX3:=heap_setCell_same _ (w.heap.size + 1) 1 _ _ (.int .i64 ref) (heap_setCell_same w2 (w.heap.size + 1) 0 _ _ (.int .i64 cls) hX2)
   have hos : Off [w.heap.size + 1] w2 ((w2.setCell ⟨w.heap.size + 1,0,none⟩ (.int .i64 cls)).setCell ⟨w.heap.size + 1,1,none⟩ (.int .i64 ref)):=(Off.setCell w2 _ 0 _).trans (Off.setCell _ _ 1 _)
   have Hnx : Hid (∀ a,Fr117 rb w.heap.size line a → JI w rb fb s letters line i R (s.size - j0) a ((w2.setCell ⟨w.heap.size + 1,0,none⟩ (.int .i64 cls)).setCell ⟨w.heap.size + 1,1,none⟩ (.int .i64 ref))):=Lib.hid (fun a ha =>
    ⟨ha,cls,ref,j0, [],j0, .slice none 0 0,s.size + 1,⟨hrd.off hos (by simp; omega),⟨hX3,⟨rfl, .inl ⟨rfl,rfl⟩⟩,fun m hm => (by cases hm),by decide,by omega⟩,rfl,Off.new (L:= [w.heap.size + 1]) hof hos (fun k hk => .inr (by simp at hk; omega)),(hos.block _ (by have:=ho.size; omega) (by simp)).trans hP2,by decide,by decide⟩,by omega,HT.out,rfl⟩)
   clear hX2 hP2 hX3 hos hrd hof ho
   go_wp2_with fail
   go_step3
   rename_i hK
   refine hK _ _ (hp _ _ _ (Hnx.out _ ?_))
   exact Fr117.of rfl rfl rfl rfl rfl rfl
 case pass =>
  rintro g a W ⟨⟨f0,rfl⟩,cls,ref,j0,ms,j,vh,f,hj,hf,hT,rfl⟩
  have Hmk:=Lib.hid (mark_any rb fb s j W hj.rd)
  have Hj:=Lib.hid hj
  have HT:=Lib.hid hT
  clear hj hT q0 q1 q2 q3 H
  go_wp2_with fail
  refine Hmk.out.mono ?_
  rintro e w2 ⟨rfl,hb2⟩
  have Hrd2:=Lib.hid (Hj.out.rd.below hb2)
  have hPs : w.heap.size + 1 < W.heap.size:=(Array.getElem?_eq_some_iff.1 Hj.out.it.x).1
  have Hit2 : Hid (ItM w2 w.heap.size (w.heap.size + 1) letters cls ref ms i vh):=Lib.hid ⟨(hb2.block _ hPs).trans Hj.out.it.x,Hj.out.it.h.kept (only_of_below hb2 none) some_ne,Hj.out.it.ok,Hj.out.it.four,Hj.out.it.hB⟩
  have Hof2:=Lib.hid (Hj.out.off.trans (Off.of_below hb2 (Nat.le_refl _) [rb]))
  have Hb2:=Lib.hid hb2
  have hneF:=neF
  have hneN:=neN
  clear hb2
  by_cases hsg : j < s.size ∧ signB (byteD s j) = true
  ·obtain ⟨hjs,hsg⟩:=hsg
   have hmv : markV s j rb = .func (.func (markF (byteD s j))) #[.pointer (some ⟨rb,0,none⟩)] #[]:=by unfold markV; rw [if_pos ⟨hjs,hsg⟩]
   have Hstep:=Lib.hid (fun (w3 : World) (e : Ending) hm => mark_step (w3:=w3) (e:=e) Hj.out Hb2.out hjs hsg hf HT.out hrb hm)
   have Hv2:=Lib.hid (Vars.off Hv.out Hof2.out (by simp; exact h9))
   have hbs : ∀ c : UInt8,byteD s j = c → isB s j c.toNat = true:=fun c e => by rw [isB_in hjs, ← byteD_in hjs,e]; simp
   rw [hmv]
   rcases sign_cases (byteD s j) with ⟨_,hc⟩ | ⟨hcf,_⟩
   ·rcases hc with ⟨e1,_⟩ | ⟨e1,_⟩ | ⟨e1,_⟩ | ⟨e1,_⟩ | ⟨e1,_⟩ | ⟨e1,_⟩
    ·have hcl:=Lib.hid (metreMark_any w.heap.size Bl rb fb (w.heap.size + 1) s j letters cls ref ms i vh vl w2 Hrd2.out Hit2.out (hbs _ e1) (Hl.out.off Hof2.out hfs (by simp; exact hfr) (fun k hk => by simp; exact hvl k hk)) (by have:=Hof2.out.size; omega) hfr (by omega) (fun k hk => ⟨hvl k hk,by have:=hvs k hk; omega⟩))
     have hmf : markF (byteD s j) = 181:=by rw [e1]; rfl
     rw [hmf]
     clear hmf e1 hbs hmv
     go_wp2_with fail
     refine hcl.out.mono ?_
     rintro e w3 hm
     rcases Hstep.out w3 e hm with ⟨c,p,rfl,hok⟩ | ⟨rfl,m,j',vh',f',hj',hf',hT',hlt⟩
     ·exact ⟨rfl,hok⟩
     ·have Hnx : Hid (∀ a,Fr117 rb w.heap.size line a → JI w rb fb s letters line i R (s.size - j') a w3):=Lib.hid (fun a ha => ⟨ha,cls,ref,j0,ms ++ [m],j',vh',f',hj',hf',hT',rfl⟩)
      clear hj' hf' hT' hm
      go_wp2_with fail
      go_step3
      exact ⟨rfl,_,hlt,Hnx.out _ (Fr117.of rfl rfl rfl rfl rfl rfl)⟩
    ·have hcl:=Lib.hid (countMark_any w.heap.size rb fb (w.heap.size + 1) s j letters cls ref ms i vh w2 Hrd2.out Hit2.out (hbs _ e1) Hv2.out h9 (by omega))
     have hmf : markF (byteD s j) = 182:=by rw [e1]; rfl
     rw [hmf]
     clear hmf e1 hbs hmv
     go_wp2_with fail
     refine hcl.out.mono ?_
     rintro e w3 hm
     rcases Hstep.out w3 e hm with ⟨c,p,rfl,hok⟩ | ⟨rfl,m,j',vh',f',hj',hf',hT',hlt⟩
     ·exact ⟨rfl,hok⟩
     ·have Hnx : Hid (∀ a,Fr117 rb w.heap.size line a → JI w rb fb s letters line i R (s.size - j') a w3):=Lib.hid (fun a ha => ⟨ha,cls,ref,j0,ms ++ [m],j',vh',f',hj',hf',hT',rfl⟩)
      clear hj' hf' hT' hm
      go_wp2_with fail
      go_step3
      exact ⟨rfl,_,hlt,Hnx.out _ (Fr117.of rfl rfl rfl rfl rfl rfl)⟩
    ·have hcl:=Lib.hid (sameMark_any w.heap.size rb fb (w.heap.size + 1) s j letters cls ref ms i vh w2 Hrd2.out Hit2.out (hbs _ e1) Hv2.out h9 (by omega))
     have hmf : markF (byteD s j) = 183:=by rw [e1]; rfl
     rw [hmf]
     clear hmf e1 hbs hmv
     go_wp2_with fail
     refine hcl.out.mono ?_
     rintro e w3 hm
     rcases Hstep.out w3 e hm with ⟨c,p,rfl,hok⟩ | ⟨rfl,m,j',vh',f',hj',hf',hT',hlt⟩
     ·exact ⟨rfl,hok⟩
     ·have Hnx : Hid (∀ a,Fr117 rb w.heap.size line a → JI w rb fb s letters line i R (s.size - j') a w3):=Lib.hid (fun a ha => ⟨ha,cls,ref,j0,ms ++ [m],j',vh',f',hj',hf',hT',rfl⟩)
      clear hj' hf' hT' hm
      go_wp2_with fail
      go_step3
      exact ⟨rfl,_,hlt,Hnx.out _ (Fr117.of rfl rfl rfl rfl rfl rfl)⟩
    ·have hcl:=Lib.hid (endsMark_any w.heap.size rb fb (w.heap.size + 1) s j letters cls ref ms i vh w2 Hrd2.out Hit2.out (hbs _ e1) Hv2.out h9 (by omega))
     have hmf : markF (byteD s j) = 184:=by rw [e1]; rfl
     rw [hmf]
     clear hmf e1 hbs hmv
     go_wp2_with fail
     refine hcl.out.mono ?_
     rintro e w3 hm
     rcases Hstep.out w3 e hm with ⟨c,p,rfl,hok⟩ | ⟨rfl,m,j',vh',f',hj',hf',hT',hlt⟩
     ·exact ⟨rfl,hok⟩
     ·have Hnx : Hid (∀ a,Fr117 rb w.heap.size line a → JI w rb fb s letters line i R (s.size - j') a w3):=Lib.hid (fun a ha => ⟨ha,cls,ref,j0,ms ++ [m],j',vh',f',hj',hf',hT',rfl⟩)
      clear hj' hf' hT' hm
      go_wp2_with fail
      go_step3
      exact ⟨rfl,_,hlt,Hnx.out _ (Fr117.of rfl rfl rfl rfl rfl rfl)⟩
    ·have hcl:=Lib.hid (hasMark_any w.heap.size rb fb (w.heap.size + 1) s j letters cls ref ms i vh w2 Hrd2.out Hit2.out (hbs _ e1) Hv2.out h9 (by omega))
     have hmf : markF (byteD s j) = 185:=by rw [e1]; rfl
     rw [hmf]
     clear hmf e1 hbs hmv
     go_wp2_with fail
     refine hcl.out.mono ?_
     rintro e w3 hm
     rcases Hstep.out w3 e hm with ⟨c,p,rfl,hok⟩ | ⟨rfl,m,j',vh',f',hj',hf',hT',hlt⟩
     ·exact ⟨rfl,hok⟩
     ·have Hnx : Hid (∀ a,Fr117 rb w.heap.size line a → JI w rb fb s letters line i R (s.size - j') a w3):=Lib.hid (fun a ha => ⟨ha,cls,ref,j0,ms ++ [m],j',vh',f',hj',hf',hT',rfl⟩)
      clear hj' hf' hT' hm
      go_wp2_with fail
      go_step3
      exact ⟨rfl,_,hlt,Hnx.out _ (Fr117.of rfl rfl rfl rfl rfl rfl)⟩
    ·have hcl:=Lib.hid (beginsMark_any w.heap.size rb fb (w.heap.size + 1) s j letters cls ref ms i vh w2 Hrd2.out Hit2.out (hbs _ e1))
     have hmf : markF (byteD s j) = 186:=by rw [e1]; rfl
     rw [hmf]
     clear hmf e1 hbs hmv
     go_wp2_with fail
     refine hcl.out.mono ?_
     rintro e w3 hm
     rcases Hstep.out w3 e hm with ⟨c,p,rfl,hok⟩ | ⟨rfl,m,j',vh',f',hj',hf',hT',hlt⟩
     ·exact ⟨rfl,hok⟩
     ·have Hnx : Hid (∀ a,Fr117 rb w.heap.size line a → JI w rb fb s letters line i R (s.size - j') a w3):=Lib.hid (fun a ha => ⟨ha,cls,ref,j0,ms ++ [m],j',vh',f',hj',hf',hT',rfl⟩)
      clear hj' hf' hT' hm
      go_wp2_with fail
      go_step3
      exact ⟨rfl,_,hlt,Hnx.out _ (Fr117.of rfl rfl rfl rfl rfl rfl)⟩
   ·rw [hsg] at hcf; cases hcf
  ·have hmv : markV s j rb = .nilFunc:=by unfold markV; rw [if_neg hsg]
   have HT2 : Hid (tailP s line i cls ref (.ok (ms,j)) = R):=Lib.hid (by
    have:=HT.out
    cases f with
    | zero => exact this
    | succ q =>
     unfold marksP at this
     rw [if_neg hsg] at this
     exact this)
   rw [hmv]
   obtain ⟨Ah,ch,hvh,hch,hrow⟩:=own_int Hit2.out.h
   subst hvh
   clear hmv hsg hneF
   go_wp2_with fail
   refine (ended_any rb fb s j w2 Hrd2.out).mono ?_
   rintro e w3 ⟨rfl,hb3⟩
   cases he : endB s j with
   | true =>
    have hb5:=hb3
    clear hb3
    have HF : Hid (finP line i cls ref ms j = R):=Lib.hid (by
     have:=HT2.out
     rw [tail_fin,if_neg (by rw [he]; simp)] at this
     exact this)
    have hrd5:=Hrd2.out.below hb5
    have hPw : w.heap.size + 1 < w2.heap.size:=by have:=Hb2.out.size; omega
    have hit5 : ItM w3 w.heap.size (w.heap.size + 1) letters cls ref ms i (.slice Ah (hasOf ms).length ch):=⟨(hb5.block _ hPw).trans Hit2.out.x,Hit2.out.h.kept (only_of_below hb5 none) some_ne,Hit2.out.ok,Hit2.out.four,Hit2.out.hB⟩
    have hres5 : w3.heap[w.heap.size]? = some (.cells zC 108 (0,0)):=(hb5.block _ (by omega)).trans ((Hb2.out.block _ (by omega)).trans Hj.out.res)
    have hof5:=Hof2.out.trans (Off.of_below hb5 (Nat.le_refl _) [rb])
    clear hb5
    by_cases hl0 : 0 ≤ line
    ·have hdl : decide (0 ≤ line) = true:=decide_eq_true hl0
     have hf5 : w3.heap[w.heap.size + 1]? = _:=hit5.x
     have x5 : w3.cell? ⟨w.heap.size + 1,5,none⟩ = some (.int .i64 (nOf ms 94)):=cell_of_row _ _ 5 _ _ (0,0) hf5
     have x6 : w3.cell? ⟨w.heap.size + 1,6,none⟩ = some (.int .i64 (nOf ms 64)):=cell_of_row _ _ 6 _ _ (0,0) hf5
     have x7 : w3.cell? ⟨w.heap.size + 1,7,none⟩ = some (.slice Ah (hasOf ms).length ch):=cell_of_row _ _ 7 _ _ (0,0) hf5
     have x7a : (w3.alloc (.cells #[.int .i64 (nOf ms 94), .int .i64 (nOf ms 64)] 3)).cell? ⟨w.heap.size + 1,7,none⟩ = some (.slice Ah (hasOf ms).length ch):=(World.cell?_of_block (Below.heap_alloc _ _ _ (Array.getElem?_eq_some_iff.1 hf5).1)).trans x7
     have Hpair:=Lib.hid (own_pair w3 (.int .i64 (nOf ms 94)) (.int .i64 (nOf ms 64)))
     have Hhas : Hid ((w3.alloc (.cells #[.int .i64 (nOf ms 94), .int .i64 (nOf ms 64)] 3)).ownsRow w.heap.size 3 1 (.slice Ah (hasOf ms).length ch) (hasOf ms).length (intC (hasOf ms))):=Lib.hid (hit5.h.kept (only_of_below ((Below.refl w3.heap.size w3).alloc (Nat.le_refl _) _) none) some_ne)
     have hfour : (hasOf ms).length ≤ 4:=by rw [has_many]; exact hit5.four
     have HmidA:=Lib.hid (fun v' W' h1 h2 => backs_laid (W:=w3) (W':=W') (n94:=nOf ms 94) (n64:=nOf ms 64) (has:=hasOf ms) (v':=v') h1 h2)
     have Hit5:=Lib.hid hit5
     have Hres5:=Lib.hid hres5
     have Hrd5:=Lib.hid hrd5
     have Hof5:=Lib.hid hof5
     clear hit5 hres5 hrd5 hof5 hf5
     go_wp2_with (at_builtin; go_loud (refine wpList_append_any _ rfl _ _ 43 rfl w3.heap.size 3 _ _ 1 8 Tryz.underlying43 infoI zeroI sizeI bytesI rfl (by decide) (.slice (some ⟨w3.heap.size,0,none⟩) 2 2) 2 [.int .i64 (nOf ms 94), .int .i64 (nOf ms 64)] rfl Hpair.out w.heap.size (.slice Ah (hasOf ms).length ch) (hasOf ms).length (intC (hasOf ms)) rfl Hhas.out (by intro u hu; unfold intC at hu; obtain ⟨n,_,rfl⟩:=List.mem_map.1 hu; rfl) (by unfold maxLen; omega) (by omega) (by simp) ?_; intro v8 W8 hown8 hgr8 hl8; obtain ⟨LL,g8,c8,hLL,rfl,hc8,hcells8,hb8⟩:=HmidA.out v8 W8 hown8 hgr8; have HLL:=Lib.hid hLL; clear hLL hown8 hgr8 hl8))
     have hnP : w3.heap.size ≤ W8.heap.size:=hb8.size
     have hit6:=Hit5.out.below hb8
     have hres6 : W8.heap[w.heap.size]? = some (.cells zC 108 (0,0)):=(hb8.block _ (Array.getElem?_eq_some_iff.1 Hres5.out).1).trans Hres5.out
     have hrd6:=Hrd5.out.below hb8
     have hof6:=Hof5.out.trans (Off.of_below hb8 (Nat.le_refl _) [rb])
     have Hfs:=Lib.hid (fun (hx : ∃ n ∈ LL,line < n) => far_some (s:=s) (line:=line) (ms:=ms) (i:=i) (cls:=cls) (ref:=ref) hl0 Hj.out.laid Hrd5.out.le Hj.out.one.1 Hj.out.one.2 (by rw [← HLL.out]; exact hx))
     have Hfn : Hid (ms.find? (farB line) = none ↔ ∀ n ∈ LL,n ≤ line):=Lib.hid (by rw [HLL.out]; exact far_none hl0 Hj.out.one.1 Hj.out.one.2)
     clear x5 x6 x7 x7a hb8
     have Hc8:=Lib.hid hcells8
     clear hcells8
     have hLen : LL.length ≤ 6:=by rw [HLL.out]; simp; omega
     clear HLL
     have Hit6:=Lib.hid hit6
     have Hres6:=Lib.hid hres6
     have Hrd6:=Lib.hid hrd6
     have Hof6:=Lib.hid hof6
     clear hit6 hres6 hrd6 hof6
     go_wp2_with fail
     go_loopw [44] (fun q wr => ∃ k : Nat,k ≤ LL.length ∧ q = .int .i64 k ∧ Hid (∀ n ∈ LL.take k,n ≤ line) ∧ wr = W8) (fun q _ => LL.length - (intOf q).toNat)
     case atStart => exact ⟨0,Nat.zero_le _,rfl,Lib.hid (fun n hn => by simp at hn),rfl⟩
     case round =>
      obtain ⟨k,hk,rfl,hall,hwr⟩:=hrel
      subst hwr
      by_cases hlt : k < LL.length
      ·have hck:=Hc8.out k hlt
       have Htk : Hid (LL.take (k + 1) = LL.take k ++ [LL.getD k 0]):=Lib.hid (by rw [List.take_succ_eq_append_getElem hlt]; simp [List.getD_eq_getElem?_getD,hlt])
       have Hmem : Hid (LL.getD k 0 ∈ LL):=Lib.hid (by simp [List.getD_eq_getElem?_getD,hlt])
       generalize LL.getD k 0 = V at *
       by_cases hL : line < V
       ·have hdv : decide (line < V) = true:=decide_eq_true hL
        obtain ⟨f1,p1,hf1,hfk,hno,hsc,hfin⟩:=Hfs.out ⟨V,Hmem.out,hL⟩
        have HR2 : Hid (R = .error (182,p1)):=Lib.hid (HF.out.symm.trans hfin)
        have Hbk:=Lib.hid (backwards_any rb fb s j f1 line letters cls ref ms i _ Ah (hasOf ms).length ch wr Hrd6.out (Vars.off Hv.out Hof6.out (by simp; exact h9)) rfl hf1 hfk hno)
        have hitx : wr.heap[w.heap.size + 1]? = _:=Hit6.out.x
        have x0 : wr.cell? ⟨w.heap.size + 1,0,none⟩ = some (.int .i64 cls):=cell_of_row _ _ 0 _ _ (0,0) hitx
        have x1 : wr.cell? ⟨w.heap.size + 1,1,none⟩ = some (.int .i64 ref):=cell_of_row _ _ 1 _ _ (0,0) hitx
        have x2 : wr.cell? ⟨w.heap.size + 1,2,none⟩ = some (.int .i64 (metOf letters ms)):=cell_of_row _ _ 2 _ _ (0,0) hitx
        have x3 : wr.cell? ⟨w.heap.size + 1,3,none⟩ = some (.int .u8 (nOf ms 58)):=cell_of_row _ _ 3 _ _ (0,0) hitx
        have x4 : wr.cell? ⟨w.heap.size + 1,4,none⟩ = some (.int .i64 (nOf ms 47)):=cell_of_row _ _ 4 _ _ (0,0) hitx
        have x5 : wr.cell? ⟨w.heap.size + 1,5,none⟩ = some (.int .i64 (nOf ms 94)):=cell_of_row _ _ 5 _ _ (0,0) hitx
        have x6 : wr.cell? ⟨w.heap.size + 1,6,none⟩ = some (.int .i64 (nOf ms 64)):=cell_of_row _ _ 6 _ _ (0,0) hitx
        have x7 : wr.cell? ⟨w.heap.size + 1,7,none⟩ = some (.slice Ah (hasOf ms).length ch):=cell_of_row _ _ 7 _ _ (0,0) hitx
        have x8 : wr.cell? ⟨w.heap.size + 1,8,none⟩ = some (.int .i32 (nOf ms 39)):=cell_of_row _ _ 8 _ _ (0,0) hitx
        have x9 : wr.cell? ⟨w.heap.size + 1,9,none⟩ = some (.int .i64 i):=cell_of_row _ _ 9 _ _ (0,0) hitx
        have x10 : wr.cell? ⟨w.heap.size + 1,10,none⟩ = some (.int .i64 (firstOf ms)):=cell_of_row _ _ 10 _ _ (0,0) hitx
        have x11 : wr.cell? ⟨w.heap.size + 1,11,none⟩ = some (.bool (anyOf ms 58)):=cell_of_row _ _ 11 _ _ (0,0) hitx
        have x12 : wr.cell? ⟨w.heap.size + 1,12,none⟩ = some (.bool (anyOf ms 47)):=cell_of_row _ _ 12 _ _ (0,0) hitx
        have Hsc:=Lib.hid hsc
        clear hitx hf1 hfk hno hsc hfin
        go_wp2_with fail
        refine Hbk.out.mono ?_
        rintro e w6 ⟨hb6,he6⟩
        rw [Hsc.out] at he6
        have he6' : e = PanE 182 p1:=he6
        subst he6'
        exact ⟨rfl,Hof6.out.trans (Off.of_below hb6 (Nat.le_refl _) _),by rw [HR2.out]; rfl⟩
       ·have hdv : decide (line < V) = false:=decide_eq_false hL
        have Hall : Hid (∀ n ∈ LL.take (k + 1),n ≤ line):=Lib.hid (by
         intro n hn
         rw [Htk.out] at hn
         rcases List.mem_append.1 hn with hn | hn
         ·exact hall.out n hn
         ·obtain rfl : n = V:=by simpa using hn
          omega)
        clear hL
        go_wp2_with fail
        go_roundw
        case rel => exact ⟨k + 1,by omega,by go_num,Hall,trivial⟩
        case measure => simp [intOf]; omega
      ·obtain rfl : k = LL.length:=by omega
       have HR2 : Hid (R = .ok (⟨cls,ref,ms,i⟩,j)):=Lib.hid (by
        rw [← HF.out]
        unfold finP
        rw [if_pos hl0,Hfn.out.2 (fun n hn => hall.out n (by rw [List.take_length]; exact hn))])
       have hit5:=Hit6.out
       have hres5:=Hres6.out
       have hrd5:=Hrd6.out
       have hof5:=Hof6.out
       have hitx : wr.heap[w.heap.size + 1]? = _:=hit5.x
       have hresx : wr.heap[w.heap.size]? = _:=hres5
       have x0 : wr.cell? ⟨w.heap.size + 1,0,none⟩ = some (.int .i64 cls):=cell_of_row _ _ 0 _ _ (0,0) hitx
       have x1 : wr.cell? ⟨w.heap.size + 1,1,none⟩ = some (.int .i64 ref):=cell_of_row _ _ 1 _ _ (0,0) hitx
       have x2 : wr.cell? ⟨w.heap.size + 1,2,none⟩ = some (.int .i64 (metOf letters ms)):=cell_of_row _ _ 2 _ _ (0,0) hitx
       have x3 : wr.cell? ⟨w.heap.size + 1,3,none⟩ = some (.int .u8 (nOf ms 58)):=cell_of_row _ _ 3 _ _ (0,0) hitx
       have x4 : wr.cell? ⟨w.heap.size + 1,4,none⟩ = some (.int .i64 (nOf ms 47)):=cell_of_row _ _ 4 _ _ (0,0) hitx
       have x5 : wr.cell? ⟨w.heap.size + 1,5,none⟩ = some (.int .i64 (nOf ms 94)):=cell_of_row _ _ 5 _ _ (0,0) hitx
       have x6 : wr.cell? ⟨w.heap.size + 1,6,none⟩ = some (.int .i64 (nOf ms 64)):=cell_of_row _ _ 6 _ _ (0,0) hitx
       have x7 : wr.cell? ⟨w.heap.size + 1,7,none⟩ = some (.slice Ah (hasOf ms).length ch):=cell_of_row _ _ 7 _ _ (0,0) hitx
       have x8 : wr.cell? ⟨w.heap.size + 1,8,none⟩ = some (.int .i32 (nOf ms 39)):=cell_of_row _ _ 8 _ _ (0,0) hitx
       have x9 : wr.cell? ⟨w.heap.size + 1,9,none⟩ = some (.int .i64 i):=cell_of_row _ _ 9 _ _ (0,0) hitx
       have x10 : wr.cell? ⟨w.heap.size + 1,10,none⟩ = some (.int .i64 (firstOf ms)):=cell_of_row _ _ 10 _ _ (0,0) hitx
       have x11 : wr.cell? ⟨w.heap.size + 1,11,none⟩ = some (.bool (anyOf ms 58)):=cell_of_row _ _ 11 _ _ (0,0) hitx
       have x12 : wr.cell? ⟨w.heap.size + 1,12,none⟩ = some (.bool (anyOf ms 47)):=cell_of_row _ _ 12 _ _ (0,0) hitx
       have y0 : wr.cell? ⟨w.heap.size,0,none⟩ = some (.int .i64 0):=cell_of_row _ _ 0 _ _ (0,0) hresx
       have z0:=frozen_of_row _ _ 0 _ _ hresx
       have y1 : wr.cell? ⟨w.heap.size,1,none⟩ = some (.int .i64 0):=cell_of_row _ _ 1 _ _ (0,0) hresx
       have z1:=frozen_of_row _ _ 1 _ _ hresx
       have y2 : wr.cell? ⟨w.heap.size,2,none⟩ = some (.int .i64 0):=cell_of_row _ _ 2 _ _ (0,0) hresx
       have z2:=frozen_of_row _ _ 2 _ _ hresx
       have y3 : wr.cell? ⟨w.heap.size,3,none⟩ = some (.int .u8 0):=cell_of_row _ _ 3 _ _ (0,0) hresx
       have z3:=frozen_of_row _ _ 3 _ _ hresx
       have y4 : wr.cell? ⟨w.heap.size,4,none⟩ = some (.int .i64 0):=cell_of_row _ _ 4 _ _ (0,0) hresx
       have z4:=frozen_of_row _ _ 4 _ _ hresx
       have y5 : wr.cell? ⟨w.heap.size,5,none⟩ = some (.int .i64 0):=cell_of_row _ _ 5 _ _ (0,0) hresx
       have z5:=frozen_of_row _ _ 5 _ _ hresx
       have y6 : wr.cell? ⟨w.heap.size,6,none⟩ = some (.int .i64 0):=cell_of_row _ _ 6 _ _ (0,0) hresx
       have z6:=frozen_of_row _ _ 6 _ _ hresx
       have y7 : wr.cell? ⟨w.heap.size,7,none⟩ = some (.slice none 0 0):=cell_of_row _ _ 7 _ _ (0,0) hresx
       have z7:=frozen_of_row _ _ 7 _ _ hresx
       have y8 : wr.cell? ⟨w.heap.size,8,none⟩ = some (.int .i32 0):=cell_of_row _ _ 8 _ _ (0,0) hresx
       have z8:=frozen_of_row _ _ 8 _ _ hresx
       have y9 : wr.cell? ⟨w.heap.size,9,none⟩ = some (.int .i64 0):=cell_of_row _ _ 9 _ _ (0,0) hresx
       have z9:=frozen_of_row _ _ 9 _ _ hresx
       have y10 : wr.cell? ⟨w.heap.size,10,none⟩ = some (.int .i64 0):=cell_of_row _ _ 10 _ _ (0,0) hresx
       have z10:=frozen_of_row _ _ 10 _ _ hresx
       have y11 : wr.cell? ⟨w.heap.size,11,none⟩ = some (.bool false):=cell_of_row _ _ 11 _ _ (0,0) hresx
       have z11:=frozen_of_row _ _ 11 _ _ hresx
       have y12 : wr.cell? ⟨w.heap.size,12,none⟩ = some (.bool false):=cell_of_row _ _ 12 _ _ (0,0) hresx
       have z12:=frozen_of_row _ _ 12 _ _ hresx
       have hs13:=set13 hresx (.int .i64 cls) (.int .i64 ref) (.int .i64 (metOf letters ms)) (.int .u8 (nOf ms 58)) (.int .i64 (nOf ms 47)) (.int .i64 (nOf ms 94)) (.int .i64 (nOf ms 64)) (.slice Ah (hasOf ms).length ch) (.int .i32 (nOf ms 39)) (.int .i64 i) (.int .i64 (firstOf ms)) (.bool (anyOf ms 58)) (.bool (anyOf ms 47))
       have HS:=Lib.hid hs13
       have HRd:=Lib.hid (hrd5.off hs13.2 (by simp; omega))
       have HOf:=Lib.hid (Off.new (L:= [w.heap.size]) hof5 hs13.2 (fun k hk => .inr (by simp at hk; omega)))
       have HOwn:=Lib.hid (hs13.2.own hit5.h (fun k hk => by
        have h0:=own_neb hit5.h hresx (by decide)
        rw [hk] at h0
        simp at h0 ⊢
        exact h0))
       have HOk:=Lib.hid hit5.ok
       clear hitx hresx hs13 hit5 hres5 hrd5 hof5
       go_wp2_with fail
       refine item_end rfl HS.out.1 ⟨HOf.out,?_⟩
       rw [HR2.out]
       exact ⟨_,rfl,HRd.out,HOwn.out,HOk.out⟩
    ·have hdl : decide (0 ≤ line) = false:=decide_eq_false hl0
     have HR2 : Hid (R = .ok (⟨cls,ref,ms,i⟩,j)):=Lib.hid (by rw [← HF.out]; unfold finP; rw [if_neg hl0])
     have hitx : w3.heap[w.heap.size + 1]? = _:=hit5.x
     have hresx : w3.heap[w.heap.size]? = _:=hres5
     have x0 : w3.cell? ⟨w.heap.size + 1,0,none⟩ = some (.int .i64 cls):=cell_of_row _ _ 0 _ _ (0,0) hitx
     have x1 : w3.cell? ⟨w.heap.size + 1,1,none⟩ = some (.int .i64 ref):=cell_of_row _ _ 1 _ _ (0,0) hitx
     have x2 : w3.cell? ⟨w.heap.size + 1,2,none⟩ = some (.int .i64 (metOf letters ms)):=cell_of_row _ _ 2 _ _ (0,0) hitx
     have x3 : w3.cell? ⟨w.heap.size + 1,3,none⟩ = some (.int .u8 (nOf ms 58)):=cell_of_row _ _ 3 _ _ (0,0) hitx
     have x4 : w3.cell? ⟨w.heap.size + 1,4,none⟩ = some (.int .i64 (nOf ms 47)):=cell_of_row _ _ 4 _ _ (0,0) hitx
     have x5 : w3.cell? ⟨w.heap.size + 1,5,none⟩ = some (.int .i64 (nOf ms 94)):=cell_of_row _ _ 5 _ _ (0,0) hitx
     have x6 : w3.cell? ⟨w.heap.size + 1,6,none⟩ = some (.int .i64 (nOf ms 64)):=cell_of_row _ _ 6 _ _ (0,0) hitx
     have x7 : w3.cell? ⟨w.heap.size + 1,7,none⟩ = some (.slice Ah (hasOf ms).length ch):=cell_of_row _ _ 7 _ _ (0,0) hitx
     have x8 : w3.cell? ⟨w.heap.size + 1,8,none⟩ = some (.int .i32 (nOf ms 39)):=cell_of_row _ _ 8 _ _ (0,0) hitx
     have x9 : w3.cell? ⟨w.heap.size + 1,9,none⟩ = some (.int .i64 i):=cell_of_row _ _ 9 _ _ (0,0) hitx
     have x10 : w3.cell? ⟨w.heap.size + 1,10,none⟩ = some (.int .i64 (firstOf ms)):=cell_of_row _ _ 10 _ _ (0,0) hitx
     have x11 : w3.cell? ⟨w.heap.size + 1,11,none⟩ = some (.bool (anyOf ms 58)):=cell_of_row _ _ 11 _ _ (0,0) hitx
     have x12 : w3.cell? ⟨w.heap.size + 1,12,none⟩ = some (.bool (anyOf ms 47)):=cell_of_row _ _ 12 _ _ (0,0) hitx
     have y0 : w3.cell? ⟨w.heap.size,0,none⟩ = some (.int .i64 0):=cell_of_row _ _ 0 _ _ (0,0) hresx
     have z0:=frozen_of_row _ _ 0 _ _ hresx
     have y1 : w3.cell? ⟨w.heap.size,1,none⟩ = some (.int .i64 0):=cell_of_row _ _ 1 _ _ (0,0) hresx
     have z1:=frozen_of_row _ _ 1 _ _ hresx
     have y2 : w3.cell? ⟨w.heap.size,2,none⟩ = some (.int .i64 0):=cell_of_row _ _ 2 _ _ (0,0) hresx
     have z2:=frozen_of_row _ _ 2 _ _ hresx
     have y3 : w3.cell? ⟨w.heap.size,3,none⟩ = some (.int .u8 0):=cell_of_row _ _ 3 _ _ (0,0) hresx
     have z3:=frozen_of_row _ _ 3 _ _ hresx
     have y4 : w3.cell? ⟨w.heap.size,4,none⟩ = some (.int .i64 0):=cell_of_row _ _ 4 _ _ (0,0) hresx
     have z4:=frozen_of_row _ _ 4 _ _ hresx
     have y5 : w3.cell? ⟨w.heap.size,5,none⟩ = some (.int .i64 0):=cell_of_row _ _ 5 _ _ (0,0) hresx
     have z5:=frozen_of_row _ _ 5 _ _ hresx
     have y6 : w3.cell? ⟨w.heap.size,6,none⟩ = some (.int .i64 0):=cell_of_row _ _ 6 _ _ (0,0) hresx
     have z6:=frozen_of_row _ _ 6 _ _ hresx
     have y7 : w3.cell? ⟨w.heap.size,7,none⟩ = some (.slice none 0 0):=cell_of_row _ _ 7 _ _ (0,0) hresx
     have z7:=frozen_of_row _ _ 7 _ _ hresx
     have y8 : w3.cell? ⟨w.heap.size,8,none⟩ = some (.int .i32 0):=cell_of_row _ _ 8 _ _ (0,0) hresx
     have z8:=frozen_of_row _ _ 8 _ _ hresx
     have y9 : w3.cell? ⟨w.heap.size,9,none⟩ = some (.int .i64 0):=cell_of_row _ _ 9 _ _ (0,0) hresx
     have z9:=frozen_of_row _ _ 9 _ _ hresx
     have y10 : w3.cell? ⟨w.heap.size,10,none⟩ = some (.int .i64 0):=cell_of_row _ _ 10 _ _ (0,0) hresx
     have z10:=frozen_of_row _ _ 10 _ _ hresx
     have y11 : w3.cell? ⟨w.heap.size,11,none⟩ = some (.bool false):=cell_of_row _ _ 11 _ _ (0,0) hresx
     have z11:=frozen_of_row _ _ 11 _ _ hresx
     have y12 : w3.cell? ⟨w.heap.size,12,none⟩ = some (.bool false):=cell_of_row _ _ 12 _ _ (0,0) hresx
     have z12:=frozen_of_row _ _ 12 _ _ hresx
     have hs13:=set13 hresx (.int .i64 cls) (.int .i64 ref) (.int .i64 (metOf letters ms)) (.int .u8 (nOf ms 58)) (.int .i64 (nOf ms 47)) (.int .i64 (nOf ms 94)) (.int .i64 (nOf ms 64)) (.slice Ah (hasOf ms).length ch) (.int .i32 (nOf ms 39)) (.int .i64 i) (.int .i64 (firstOf ms)) (.bool (anyOf ms 58)) (.bool (anyOf ms 47))
     have HS:=Lib.hid hs13
     have HRd:=Lib.hid (hrd5.off hs13.2 (by simp; omega))
     have HOf:=Lib.hid (Off.new (L:= [w.heap.size]) hof5 hs13.2 (fun k hk => .inr (by simp at hk; omega)))
     have HOwn:=Lib.hid (hs13.2.own hit5.h (fun k hk => by
      have h0:=own_neb hit5.h hresx (by decide)
      rw [hk] at h0
      simp at h0 ⊢
      exact h0))
     have HOk:=Lib.hid hit5.ok
     clear hitx hresx hs13 hit5 hres5 hrd5 hof5
     go_wp2_with fail
     refine item_end rfl HS.out.1 ⟨HOf.out,?_⟩
     rw [HR2.out]
     exact ⟨_,rfl,HRd.out,HOwn.out,HOk.out⟩
   | false =>
    have hi : Hid (Calls Tryz.prog 89 #[.pointer (some ⟨rb,0,none⟩), .int .u8 32] w3 fun e w' => e = .returned (.bool (isB s j 32)) ∧ Below w3.heap.size w3 w'):=Lib.hid (is_any rb fb s j 32 w3 (Hrd2.out.below hb3))
    have Hb3:=Lib.hid hb3
    have He:=Lib.hid he
    clear hb3 he
    go_wp2_with fail
    refine hi.out.mono ?_
    rintro e w4 ⟨rfl,hb4⟩
    cases hi32 : isB s j 32 with
    | true =>
     have hb5:=Hb3.out.trans (hb4.mono Hb3.out.size)
     clear hb4
     have HF : Hid (finP line i cls ref ms j = R):=Lib.hid (by
      have:=HT2.out
      rw [tail_fin,if_neg (by rw [hi32]; simp)] at this
      exact this)
     have hrd5:=Hrd2.out.below hb5
     have hPw : w.heap.size + 1 < w2.heap.size:=by have:=Hb2.out.size; omega
     have hit5 : ItM w4 w.heap.size (w.heap.size + 1) letters cls ref ms i (.slice Ah (hasOf ms).length ch):=⟨(hb5.block _ hPw).trans Hit2.out.x,Hit2.out.h.kept (only_of_below hb5 none) some_ne,Hit2.out.ok,Hit2.out.four,Hit2.out.hB⟩
     have hres5 : w4.heap[w.heap.size]? = some (.cells zC 108 (0,0)):=(hb5.block _ (by omega)).trans ((Hb2.out.block _ (by omega)).trans Hj.out.res)
     have hof5:=Hof2.out.trans (Off.of_below hb5 (Nat.le_refl _) [rb])
     clear hb5
     by_cases hl0 : 0 ≤ line
     ·have hdl : decide (0 ≤ line) = true:=decide_eq_true hl0
      have hf5 : w4.heap[w.heap.size + 1]? = _:=hit5.x
      have x5 : w4.cell? ⟨w.heap.size + 1,5,none⟩ = some (.int .i64 (nOf ms 94)):=cell_of_row _ _ 5 _ _ (0,0) hf5
      have x6 : w4.cell? ⟨w.heap.size + 1,6,none⟩ = some (.int .i64 (nOf ms 64)):=cell_of_row _ _ 6 _ _ (0,0) hf5
      have x7 : w4.cell? ⟨w.heap.size + 1,7,none⟩ = some (.slice Ah (hasOf ms).length ch):=cell_of_row _ _ 7 _ _ (0,0) hf5
      have x7a : (w4.alloc (.cells #[.int .i64 (nOf ms 94), .int .i64 (nOf ms 64)] 3)).cell? ⟨w.heap.size + 1,7,none⟩ = some (.slice Ah (hasOf ms).length ch):=(World.cell?_of_block (Below.heap_alloc _ _ _ (Array.getElem?_eq_some_iff.1 hf5).1)).trans x7
      have Hpair:=Lib.hid (own_pair w4 (.int .i64 (nOf ms 94)) (.int .i64 (nOf ms 64)))
      have Hhas : Hid ((w4.alloc (.cells #[.int .i64 (nOf ms 94), .int .i64 (nOf ms 64)] 3)).ownsRow w.heap.size 3 1 (.slice Ah (hasOf ms).length ch) (hasOf ms).length (intC (hasOf ms))):=Lib.hid (hit5.h.kept (only_of_below ((Below.refl w4.heap.size w4).alloc (Nat.le_refl _) _) none) some_ne)
      have hfour : (hasOf ms).length ≤ 4:=by rw [has_many]; exact hit5.four
      have HmidA:=Lib.hid (fun v' W' h1 h2 => backs_laid (W:=w4) (W':=W') (n94:=nOf ms 94) (n64:=nOf ms 64) (has:=hasOf ms) (v':=v') h1 h2)
      have Hit5:=Lib.hid hit5
      have Hres5:=Lib.hid hres5
      have Hrd5:=Lib.hid hrd5
      have Hof5:=Lib.hid hof5
      clear hit5 hres5 hrd5 hof5 hf5
      go_wp2_with (at_builtin; go_loud (refine wpList_append_any _ rfl _ _ 43 rfl w4.heap.size 3 _ _ 1 8 Tryz.underlying43 infoI zeroI sizeI bytesI rfl (by decide) (.slice (some ⟨w4.heap.size,0,none⟩) 2 2) 2 [.int .i64 (nOf ms 94), .int .i64 (nOf ms 64)] rfl Hpair.out w.heap.size (.slice Ah (hasOf ms).length ch) (hasOf ms).length (intC (hasOf ms)) rfl Hhas.out (by intro u hu; unfold intC at hu; obtain ⟨n,_,rfl⟩:=List.mem_map.1 hu; rfl) (by unfold maxLen; omega) (by omega) (by simp) ?_; intro v8 W8 hown8 hgr8 hl8; obtain ⟨LL,g8,c8,hLL,rfl,hc8,hcells8,hb8⟩:=HmidA.out v8 W8 hown8 hgr8; have HLL:=Lib.hid hLL; clear hLL hown8 hgr8 hl8))
      have hnP : w4.heap.size ≤ W8.heap.size:=hb8.size
      have hit6:=Hit5.out.below hb8
      have hres6 : W8.heap[w.heap.size]? = some (.cells zC 108 (0,0)):=(hb8.block _ (Array.getElem?_eq_some_iff.1 Hres5.out).1).trans Hres5.out
      have hrd6:=Hrd5.out.below hb8
      have hof6:=Hof5.out.trans (Off.of_below hb8 (Nat.le_refl _) [rb])
      have Hfs:=Lib.hid (fun (hx : ∃ n ∈ LL,line < n) => far_some (s:=s) (line:=line) (ms:=ms) (i:=i) (cls:=cls) (ref:=ref) hl0 Hj.out.laid Hrd5.out.le Hj.out.one.1 Hj.out.one.2 (by rw [← HLL.out]; exact hx))
      have Hfn : Hid (ms.find? (farB line) = none ↔ ∀ n ∈ LL,n ≤ line):=Lib.hid (by rw [HLL.out]; exact far_none hl0 Hj.out.one.1 Hj.out.one.2)
      clear x5 x6 x7 x7a hb8
      have Hc8:=Lib.hid hcells8
      clear hcells8
      have hLen : LL.length ≤ 6:=by rw [HLL.out]; simp; omega
      clear HLL
      have Hit6:=Lib.hid hit6
      have Hres6:=Lib.hid hres6
      have Hrd6:=Lib.hid hrd6
      have Hof6:=Lib.hid hof6
      clear hit6 hres6 hrd6 hof6
      go_wp2_with fail
      go_loopw [44] (fun q wr => ∃ k : Nat,k ≤ LL.length ∧ q = .int .i64 k ∧ Hid (∀ n ∈ LL.take k,n ≤ line) ∧ wr = W8) (fun q _ => LL.length - (intOf q).toNat)
      case atStart => exact ⟨0,Nat.zero_le _,rfl,Lib.hid (fun n hn => by simp at hn),rfl⟩
      case round =>
       obtain ⟨k,hk,rfl,hall,hwr⟩:=hrel
       subst hwr
       by_cases hlt : k < LL.length
       ·have hck:=Hc8.out k hlt
        have Htk : Hid (LL.take (k + 1) = LL.take k ++ [LL.getD k 0]):=Lib.hid (by rw [List.take_succ_eq_append_getElem hlt]; simp [List.getD_eq_getElem?_getD,hlt])
        have Hmem : Hid (LL.getD k 0 ∈ LL):=Lib.hid (by simp [List.getD_eq_getElem?_getD,hlt])
        generalize LL.getD k 0 = V at *
        by_cases hL : line < V
        ·have hdv : decide (line < V) = true:=decide_eq_true hL
         obtain ⟨f1,p1,hf1,hfk,hno,hsc,hfin⟩:=Hfs.out ⟨V,Hmem.out,hL⟩
         have HR2 : Hid (R = .error (182,p1)):=Lib.hid (HF.out.symm.trans hfin)
         have Hbk:=Lib.hid (backwards_any rb fb s j f1 line letters cls ref ms i _ Ah (hasOf ms).length ch wr Hrd6.out (Vars.off Hv.out Hof6.out (by simp; exact h9)) rfl hf1 hfk hno)
         have hitx : wr.heap[w.heap.size + 1]? = _:=Hit6.out.x
         have x0 : wr.cell? ⟨w.heap.size + 1,0,none⟩ = some (.int .i64 cls):=cell_of_row _ _ 0 _ _ (0,0) hitx
         have x1 : wr.cell? ⟨w.heap.size + 1,1,none⟩ = some (.int .i64 ref):=cell_of_row _ _ 1 _ _ (0,0) hitx
         have x2 : wr.cell? ⟨w.heap.size + 1,2,none⟩ = some (.int .i64 (metOf letters ms)):=cell_of_row _ _ 2 _ _ (0,0) hitx
         have x3 : wr.cell? ⟨w.heap.size + 1,3,none⟩ = some (.int .u8 (nOf ms 58)):=cell_of_row _ _ 3 _ _ (0,0) hitx
         have x4 : wr.cell? ⟨w.heap.size + 1,4,none⟩ = some (.int .i64 (nOf ms 47)):=cell_of_row _ _ 4 _ _ (0,0) hitx
         have x5 : wr.cell? ⟨w.heap.size + 1,5,none⟩ = some (.int .i64 (nOf ms 94)):=cell_of_row _ _ 5 _ _ (0,0) hitx
         have x6 : wr.cell? ⟨w.heap.size + 1,6,none⟩ = some (.int .i64 (nOf ms 64)):=cell_of_row _ _ 6 _ _ (0,0) hitx
         have x7 : wr.cell? ⟨w.heap.size + 1,7,none⟩ = some (.slice Ah (hasOf ms).length ch):=cell_of_row _ _ 7 _ _ (0,0) hitx
         have x8 : wr.cell? ⟨w.heap.size + 1,8,none⟩ = some (.int .i32 (nOf ms 39)):=cell_of_row _ _ 8 _ _ (0,0) hitx
         have x9 : wr.cell? ⟨w.heap.size + 1,9,none⟩ = some (.int .i64 i):=cell_of_row _ _ 9 _ _ (0,0) hitx
         have x10 : wr.cell? ⟨w.heap.size + 1,10,none⟩ = some (.int .i64 (firstOf ms)):=cell_of_row _ _ 10 _ _ (0,0) hitx
         have x11 : wr.cell? ⟨w.heap.size + 1,11,none⟩ = some (.bool (anyOf ms 58)):=cell_of_row _ _ 11 _ _ (0,0) hitx
         have x12 : wr.cell? ⟨w.heap.size + 1,12,none⟩ = some (.bool (anyOf ms 47)):=cell_of_row _ _ 12 _ _ (0,0) hitx
         have Hsc:=Lib.hid hsc
         clear hitx hf1 hfk hno hsc hfin
         go_wp2_with fail
         refine Hbk.out.mono ?_
         rintro e w6 ⟨hb6,he6⟩
         rw [Hsc.out] at he6
         have he6' : e = PanE 182 p1:=he6
         subst he6'
         exact ⟨rfl,Hof6.out.trans (Off.of_below hb6 (Nat.le_refl _) _),by rw [HR2.out]; rfl⟩
        ·have hdv : decide (line < V) = false:=decide_eq_false hL
         have Hall : Hid (∀ n ∈ LL.take (k + 1),n ≤ line):=Lib.hid (by
          intro n hn
          rw [Htk.out] at hn
          rcases List.mem_append.1 hn with hn | hn
          ·exact hall.out n hn
          ·obtain rfl : n = V:=by simpa using hn
           omega)
         clear hL
         go_wp2_with fail
         go_roundw
         case rel => exact ⟨k + 1,by omega,by go_num,Hall,trivial⟩
         case measure => simp [intOf]; omega
       ·obtain rfl : k = LL.length:=by omega
        have HR2 : Hid (R = .ok (⟨cls,ref,ms,i⟩,j)):=Lib.hid (by
         rw [← HF.out]
         unfold finP
         rw [if_pos hl0,Hfn.out.2 (fun n hn => hall.out n (by rw [List.take_length]; exact hn))])
        have hit5:=Hit6.out
        have hres5:=Hres6.out
        have hrd5:=Hrd6.out
        have hof5:=Hof6.out
        have hitx : wr.heap[w.heap.size + 1]? = _:=hit5.x
        have hresx : wr.heap[w.heap.size]? = _:=hres5
        have x0 : wr.cell? ⟨w.heap.size + 1,0,none⟩ = some (.int .i64 cls):=cell_of_row _ _ 0 _ _ (0,0) hitx
        have x1 : wr.cell? ⟨w.heap.size + 1,1,none⟩ = some (.int .i64 ref):=cell_of_row _ _ 1 _ _ (0,0) hitx
        have x2 : wr.cell? ⟨w.heap.size + 1,2,none⟩ = some (.int .i64 (metOf letters ms)):=cell_of_row _ _ 2 _ _ (0,0) hitx
        have x3 : wr.cell? ⟨w.heap.size + 1,3,none⟩ = some (.int .u8 (nOf ms 58)):=cell_of_row _ _ 3 _ _ (0,0) hitx
        have x4 : wr.cell? ⟨w.heap.size + 1,4,none⟩ = some (.int .i64 (nOf ms 47)):=cell_of_row _ _ 4 _ _ (0,0) hitx
        have x5 : wr.cell? ⟨w.heap.size + 1,5,none⟩ = some (.int .i64 (nOf ms 94)):=cell_of_row _ _ 5 _ _ (0,0) hitx
        have x6 : wr.cell? ⟨w.heap.size + 1,6,none⟩ = some (.int .i64 (nOf ms 64)):=cell_of_row _ _ 6 _ _ (0,0) hitx
        have x7 : wr.cell? ⟨w.heap.size + 1,7,none⟩ = some (.slice Ah (hasOf ms).length ch):=cell_of_row _ _ 7 _ _ (0,0) hitx
        have x8 : wr.cell? ⟨w.heap.size + 1,8,none⟩ = some (.int .i32 (nOf ms 39)):=cell_of_row _ _ 8 _ _ (0,0) hitx
        have x9 : wr.cell? ⟨w.heap.size + 1,9,none⟩ = some (.int .i64 i):=cell_of_row _ _ 9 _ _ (0,0) hitx
        have x10 : wr.cell? ⟨w.heap.size + 1,10,none⟩ = some (.int .i64 (firstOf ms)):=cell_of_row _ _ 10 _ _ (0,0) hitx
        have x11 : wr.cell? ⟨w.heap.size + 1,11,none⟩ = some (.bool (anyOf ms 58)):=cell_of_row _ _ 11 _ _ (0,0) hitx
        have x12 : wr.cell? ⟨w.heap.size + 1,12,none⟩ = some (.bool (anyOf ms 47)):=cell_of_row _ _ 12 _ _ (0,0) hitx
        have y0 : wr.cell? ⟨w.heap.size,0,none⟩ = some (.int .i64 0):=cell_of_row _ _ 0 _ _ (0,0) hresx
        have z0:=frozen_of_row _ _ 0 _ _ hresx
        have y1 : wr.cell? ⟨w.heap.size,1,none⟩ = some (.int .i64 0):=cell_of_row _ _ 1 _ _ (0,0) hresx
        have z1:=frozen_of_row _ _ 1 _ _ hresx
        have y2 : wr.cell? ⟨w.heap.size,2,none⟩ = some (.int .i64 0):=cell_of_row _ _ 2 _ _ (0,0) hresx
        have z2:=frozen_of_row _ _ 2 _ _ hresx
        have y3 : wr.cell? ⟨w.heap.size,3,none⟩ = some (.int .u8 0):=cell_of_row _ _ 3 _ _ (0,0) hresx
        have z3:=frozen_of_row _ _ 3 _ _ hresx
        have y4 : wr.cell? ⟨w.heap.size,4,none⟩ = some (.int .i64 0):=cell_of_row _ _ 4 _ _ (0,0) hresx
        have z4:=frozen_of_row _ _ 4 _ _ hresx
        have y5 : wr.cell? ⟨w.heap.size,5,none⟩ = some (.int .i64 0):=cell_of_row _ _ 5 _ _ (0,0) hresx
        have z5:=frozen_of_row _ _ 5 _ _ hresx
        have y6 : wr.cell? ⟨w.heap.size,6,none⟩ = some (.int .i64 0):=cell_of_row _ _ 6 _ _ (0,0) hresx
        have z6:=frozen_of_row _ _ 6 _ _ hresx
        have y7 : wr.cell? ⟨w.heap.size,7,none⟩ = some (.slice none 0 0):=cell_of_row _ _ 7 _ _ (0,0) hresx
        have z7:=frozen_of_row _ _ 7 _ _ hresx
        have y8 : wr.cell? ⟨w.heap.size,8,none⟩ = some (.int .i32 0):=cell_of_row _ _ 8 _ _ (0,0) hresx
        have z8:=frozen_of_row _ _ 8 _ _ hresx
        have y9 : wr.cell? ⟨w.heap.size,9,none⟩ = some (.int .i64 0):=cell_of_row _ _ 9 _ _ (0,0) hresx
        have z9:=frozen_of_row _ _ 9 _ _ hresx
        have y10 : wr.cell? ⟨w.heap.size,10,none⟩ = some (.int .i64 0):=cell_of_row _ _ 10 _ _ (0,0) hresx
        have z10:=frozen_of_row _ _ 10 _ _ hresx
        have y11 : wr.cell? ⟨w.heap.size,11,none⟩ = some (.bool false):=cell_of_row _ _ 11 _ _ (0,0) hresx
        have z11:=frozen_of_row _ _ 11 _ _ hresx
        have y12 : wr.cell? ⟨w.heap.size,12,none⟩ = some (.bool false):=cell_of_row _ _ 12 _ _ (0,0) hresx
        have z12:=frozen_of_row _ _ 12 _ _ hresx
        have hs13:=set13 hresx (.int .i64 cls) (.int .i64 ref) (.int .i64 (metOf letters ms)) (.int .u8 (nOf ms 58)) (.int .i64 (nOf ms 47)) (.int .i64 (nOf ms 94)) (.int .i64 (nOf ms 64)) (.slice Ah (hasOf ms).length ch) (.int .i32 (nOf ms 39)) (.int .i64 i) (.int .i64 (firstOf ms)) (.bool (anyOf ms 58)) (.bool (anyOf ms 47))
        have HS:=Lib.hid hs13
        have HRd:=Lib.hid (hrd5.off hs13.2 (by simp; omega))
        have HOf:=Lib.hid (Off.new (L:= [w.heap.size]) hof5 hs13.2 (fun k hk => .inr (by simp at hk; omega)))
        have HOwn:=Lib.hid (hs13.2.own hit5.h (fun k hk => by
         have h0:=own_neb hit5.h hresx (by decide)
         rw [hk] at h0
         simp at h0 ⊢
         exact h0))
        have HOk:=Lib.hid hit5.ok
        clear hitx hresx hs13 hit5 hres5 hrd5 hof5
        go_wp2_with fail
        refine item_end rfl HS.out.1 ⟨HOf.out,?_⟩
        rw [HR2.out]
        exact ⟨_,rfl,HRd.out,HOwn.out,HOk.out⟩
     ·have hdl : decide (0 ≤ line) = false:=decide_eq_false hl0
      have HR2 : Hid (R = .ok (⟨cls,ref,ms,i⟩,j)):=Lib.hid (by rw [← HF.out]; unfold finP; rw [if_neg hl0])
      have hitx : w4.heap[w.heap.size + 1]? = _:=hit5.x
      have hresx : w4.heap[w.heap.size]? = _:=hres5
      have x0 : w4.cell? ⟨w.heap.size + 1,0,none⟩ = some (.int .i64 cls):=cell_of_row _ _ 0 _ _ (0,0) hitx
      have x1 : w4.cell? ⟨w.heap.size + 1,1,none⟩ = some (.int .i64 ref):=cell_of_row _ _ 1 _ _ (0,0) hitx
      have x2 : w4.cell? ⟨w.heap.size + 1,2,none⟩ = some (.int .i64 (metOf letters ms)):=cell_of_row _ _ 2 _ _ (0,0) hitx
      have x3 : w4.cell? ⟨w.heap.size + 1,3,none⟩ = some (.int .u8 (nOf ms 58)):=cell_of_row _ _ 3 _ _ (0,0) hitx
      have x4 : w4.cell? ⟨w.heap.size + 1,4,none⟩ = some (.int .i64 (nOf ms 47)):=cell_of_row _ _ 4 _ _ (0,0) hitx
      have x5 : w4.cell? ⟨w.heap.size + 1,5,none⟩ = some (.int .i64 (nOf ms 94)):=cell_of_row _ _ 5 _ _ (0,0) hitx
      have x6 : w4.cell? ⟨w.heap.size + 1,6,none⟩ = some (.int .i64 (nOf ms 64)):=cell_of_row _ _ 6 _ _ (0,0) hitx
      have x7 : w4.cell? ⟨w.heap.size + 1,7,none⟩ = some (.slice Ah (hasOf ms).length ch):=cell_of_row _ _ 7 _ _ (0,0) hitx
      have x8 : w4.cell? ⟨w.heap.size + 1,8,none⟩ = some (.int .i32 (nOf ms 39)):=cell_of_row _ _ 8 _ _ (0,0) hitx
      have x9 : w4.cell? ⟨w.heap.size + 1,9,none⟩ = some (.int .i64 i):=cell_of_row _ _ 9 _ _ (0,0) hitx
      have x10 : w4.cell? ⟨w.heap.size + 1,10,none⟩ = some (.int .i64 (firstOf ms)):=cell_of_row _ _ 10 _ _ (0,0) hitx
      have x11 : w4.cell? ⟨w.heap.size + 1,11,none⟩ = some (.bool (anyOf ms 58)):=cell_of_row _ _ 11 _ _ (0,0) hitx
      have x12 : w4.cell? ⟨w.heap.size + 1,12,none⟩ = some (.bool (anyOf ms 47)):=cell_of_row _ _ 12 _ _ (0,0) hitx
      have y0 : w4.cell? ⟨w.heap.size,0,none⟩ = some (.int .i64 0):=cell_of_row _ _ 0 _ _ (0,0) hresx
      have z0:=frozen_of_row _ _ 0 _ _ hresx
      have y1 : w4.cell? ⟨w.heap.size,1,none⟩ = some (.int .i64 0):=cell_of_row _ _ 1 _ _ (0,0) hresx
      have z1:=frozen_of_row _ _ 1 _ _ hresx
      have y2 : w4.cell? ⟨w.heap.size,2,none⟩ = some (.int .i64 0):=cell_of_row _ _ 2 _ _ (0,0) hresx
      have z2:=frozen_of_row _ _ 2 _ _ hresx
      have y3 : w4.cell? ⟨w.heap.size,3,none⟩ = some (.int .u8 0):=cell_of_row _ _ 3 _ _ (0,0) hresx
      have z3:=frozen_of_row _ _ 3 _ _ hresx
      have y4 : w4.cell? ⟨w.heap.size,4,none⟩ = some (.int .i64 0):=cell_of_row _ _ 4 _ _ (0,0) hresx
      have z4:=frozen_of_row _ _ 4 _ _ hresx
      have y5 : w4.cell? ⟨w.heap.size,5,none⟩ = some (.int .i64 0):=cell_of_row _ _ 5 _ _ (0,0) hresx
      have z5:=frozen_of_row _ _ 5 _ _ hresx
      have y6 : w4.cell? ⟨w.heap.size,6,none⟩ = some (.int .i64 0):=cell_of_row _ _ 6 _ _ (0,0) hresx
      have z6:=frozen_of_row _ _ 6 _ _ hresx
      have y7 : w4.cell? ⟨w.heap.size,7,none⟩ = some (.slice none 0 0):=cell_of_row _ _ 7 _ _ (0,0) hresx
      have z7:=frozen_of_row _ _ 7 _ _ hresx
      have y8 : w4.cell? ⟨w.heap.size,8,none⟩ = some (.int .i32 0):=cell_of_row _ _ 8 _ _ (0,0) hresx
      have z8:=frozen_of_row _ _ 8 _ _ hresx
      have y9 : w4.cell? ⟨w.heap.size,9,none⟩ = some (.int .i64 0):=cell_of_row _ _ 9 _ _ (0,0) hresx
      have z9:=frozen_of_row _ _ 9 _ _ hresx
      have y10 : w4.cell? ⟨w.heap.size,10,none⟩ = some (.int .i64 0):=cell_of_row _ _ 10 _ _ (0,0) hresx
      have z10:=frozen_of_row _ _ 10 _ _ hresx
      have y11 : w4.cell? ⟨w.heap.size,11,none⟩ = some (.bool false):=cell_of_row _ _ 11 _ _ (0,0) hresx
      have z11:=frozen_of_row _ _ 11 _ _ hresx
      have y12 : w4.cell? ⟨w.heap.size,12,none⟩ = some (.bool false):=cell_of_row _ _ 12 _ _ (0,0) hresx
      have z12:=frozen_of_row _ _ 12 _ _ hresx
      have hs13:=set13 hresx (.int .i64 cls) (.int .i64 ref) (.int .i64 (metOf letters ms)) (.int .u8 (nOf ms 58)) (.int .i64 (nOf ms 47)) (.int .i64 (nOf ms 94)) (.int .i64 (nOf ms 64)) (.slice Ah (hasOf ms).length ch) (.int .i32 (nOf ms 39)) (.int .i64 i) (.int .i64 (firstOf ms)) (.bool (anyOf ms 58)) (.bool (anyOf ms 47))
      have HS:=Lib.hid hs13
      have HRd:=Lib.hid (hrd5.off hs13.2 (by simp; omega))
      have HOf:=Lib.hid (Off.new (L:= [w.heap.size]) hof5 hs13.2 (fun k hk => .inr (by simp at hk; omega)))
      have HOwn:=Lib.hid (hs13.2.own hit5.h (fun k hk => by
       have h0:=own_neb hit5.h hresx (by decide)
       rw [hk] at h0
       simp at h0 ⊢
       exact h0))
      have HOk:=Lib.hid hit5.ok
      clear hitx hresx hs13 hit5 hres5 hrd5 hof5
      go_wp2_with fail
      refine item_end rfl HS.out.1 ⟨HOf.out,?_⟩
      rw [HR2.out]
      exact ⟨_,rfl,HRd.out,HOwn.out,HOk.out⟩
    | false =>
     have HR2 : Hid (R = .error (180,j)):=Lib.hid (by
      have:=HT2.out
      rw [tail_fin,if_pos (by rw [He.out,hi32]; simp)] at this
      exact this.symm)
     have hb5:=Hb3.out.trans (hb4.mono Hb3.out.size)
     have Hrd5:=Lib.hid (Hrd2.out.below hb5)
     have Hof5:=Lib.hid (Hof2.out.trans (Off.of_below hb5 (Nat.le_refl _) [rb]))
     clear hb4 hb5 hi32
     go_wp2_with fail
     refine (wrong_any rb fb s j w4 Hrd5.out).mono ?_
     rintro e w6 ⟨rfl,hb6⟩
     exact ⟨rfl,Hof5.out.trans (Off.of_below hb6 (Nat.le_refl _) _),by rw [HR2.out]; rfl⟩
end Go.Proofs.YtgklikkddckgbaaGreatDoor.Mo
namespace Go.Proofs.YtgklikkddckgbaaGreatDoor
set_option linter.unusedVariables false
set_option linter.unusedSimpArgs false
open Go.RowKit
theorem number_rs (b : Nat) (t : ByteArray) (lo hi : Int) (w : World) (hc : w.cell? ⟨b,2,none⟩ = some (.string t)) (hb : b < w.heap.size) (hv : Vars w) (ht : t.size ≤ 65536) :
  Calls Tryz.prog 148 #[.pointer (some ⟨b,0,none⟩), .int .i64 lo, .int .i64 hi] w fun e w' => e = .returned (.tuple #[.int .i64 (numE t lo hi).1, .int .i64 (numE t lo hi).2]) ∧ Below w.heap.size w w':=by
 refine (number_any b t lo hi w hc hb hv ht).mono ?_
 rintro e w' ⟨rfl,hb⟩
 refine ⟨?_,hb⟩
 unfold numE
 cases numB t with
 | none => rfl
 | some n =>
  simp only []
  by_cases h : n < lo ∨ n > hi
  ·rw [if_pos h,if_pos h,if_pos h]
  ·rw [if_neg h,if_neg h,if_neg h]
theorem numE_in {t : ByteArray} {lo hi : Int} (h : (numE t lo hi).2 = 0) : lo ≤ (numE t lo hi).1 ∧ (numE t lo hi).1 ≤ hi:=by
 unfold numE at h ⊢
 cases hn : numB t with
 | none => rw [hn] at h; simp at h
 | some n =>
  rw [hn] at h
  simp only [] at h ⊢
  by_cases h' : n < lo ∨ n > hi
  ·rw [if_pos h'] at h; simp at h
  ·rw [if_neg h']; simp only []; omega
theorem own_slice {w : World} {B e z n : Nat} {v : Value} {x : List Value} (h : w.ownsRow B e z v n x) : ∃ A c,v = .slice A n c:=by
 rcases h.2 with ⟨rfl,h0⟩ | ⟨g,cap,cur,rfl,_⟩
 ·exact ⟨none,0,by rw [h0]⟩
 ·exact ⟨_,cap,rfl⟩
/-- what a part of the reader comes to -/
def PartOk (base b : Nat) (s : ByteArray) (ah : Int) (w : World) (r : Res) (ok : Value) (no : Int → Nat → Value) (e : Ending) (w' : World) : Prop:=
 Below base w w' ∧ match r with
 | .error (c,p) => e = .returned (no c p) ∧ c ≠ 0
 | .ok (L',m') => e = .returned ok ∧ Cur s L' ∧ ∃ vf ve vb vs,RS w' base b s (hd L').1 (hd L').2 m' ah vf ve vb vs
def groupOk : Value:= .tuple #[.int .i64 0, .int .i64 0]
def groupNo (c : Int) (p : Nat) : Value:= .tuple #[.int .i64 c, .int .i64 p]
def Met.more (m : Met) (k : Nat) (own : ByteArray) : Met:= { m with feet:=m.feet ++ List.replicate k (plainFt own) }
theorem Met.more_zero (m : Met) (own : ByteArray) : m.more 0 own = m:=by simp [Met.more]
theorem Met.more_succ (m : Met) (k : Nat) (own : ByteArray) : { m.more k own with feet:=(m.more k own).feet ++ [plainFt own] } = m.more (k + 1) own:=by simp [Met.more,List.replicate_succ']
theorem Met.more_len (m : Met) (k : Nat) (own : ByteArray) : (m.more k own).feet.length = m.feet.length + k:=by simp [Met.more]
theorem tail_err {n : Int} {at0 : Nat} {L : List Tok} {m : Met} {er : Int} (h : (footB (hd L).2).2 = er) (h0 : er ≠ 0) : groupTail n at0 L m = .error (er,(hd L).1):=by
 unfold groupTail; rw [h,if_neg h0]
theorem tail_long {n : Int} {at0 : Nat} {L : List Tok} {m : Met} (h : (footB (hd L).2).2 = 0) (h0 : ¬ (m.feet.length : Int) + n ≤ 16) : groupTail n at0 L m = .error (3,at0):=by
 unfold groupTail; rw [if_pos h,if_neg h0]
theorem tail_ok {n : Int} {at0 : Nat} {L : List Tok} {m : Met} (h : (footB (hd L).2).2 = 0) (h0 : (m.feet.length : Int) + n ≤ 16) : groupTail n at0 L m = .ok (adv L,m.more n.toNat (footB (hd L).2).1):=by
 unfold groupTail; rw [if_pos h,if_pos h0]; rfl
variable {w : World} {base b : Nat} {s : ByteArray} {m : Met} {ah : Int} {vf ve vb : Value} {vs : List Value} {L : List Tok}
set_option maxRecDepth 100000 in
set_option maxHeartbeats 16000000 in
theorem group_any (h : RS w base b s (hd L).1 (hd L).2 m ah vf ve vb vs) (hL : Cur s L) (hs : s.size ≤ 65536) (hv : Vars w) (h6 : 9 ≤ base) (h16 : m.feet.length ≤ 16) :
  Calls Tryz.prog 143 #[.pointer (some ⟨b,0,none⟩)] w (PartOk base b s ah w (groupP L m) groupOk groupNo):=by
 have c1:=h.rb.c1
 have c2:=h.rb.c2
 have hfig:=figure_any b (hd L).2 w c2
 have hbl:=h.bl
 have hnum:=number_rs b (hd L).2 1 16 w c2 hbl hv (by have:=hL.size; omega)
 have hin:=fun h => numE_in (t:=(hd L).2) (lo:=1) (hi:=16) h
 have hP : groupP L m = if figB (hd L).2 then (if (numE (hd L).2 1 16).2 = 0 then groupTail (numE (hd L).2 1 16).1 (hd L).1 (adv L) m else .error ((numE (hd L).2 1 16).2,(hd L).1)) else groupTail 1 (hd L).1 L m:=rfl
 have H:=Lib.hid h
 have HL:=Lib.hid hL
 clear h
 generalize hat : (hd L).1 = at0 at c1 hP
 have Hat:=Lib.hid hat
 clear hat
 cases hf : figB (hd L).2 with
 | true =>
  rw [hf] at hfig hP
  rw [if_pos rfl] at hP
  generalize hE : numE (hd L).2 1 16 = E at *
  obtain ⟨n,er⟩:=E
  simp only [] at hnum hin hP
  by_cases h0 : er = 0
  ·subst h0
   rw [if_pos rfl] at hP
   have Hn:=Lib.hid (hin rfl)
   have HP:=Lib.hid hP
   clear hP hin hf hE
   go_enter Tryz.func143,Tryz.ntmps143
   go_wp2_with fail
   refine hfig.mono ?_
   rintro e w' ⟨rfl,rfl⟩
   go_wp2_with fail
   refine hnum.mono ?_
   rintro e w' ⟨rfl,hb1⟩
   have h':=H.out.below hb1
   have Hb0:=Lib.hid (hb1.mono H.out.bs)
   have hnx:=next_rs h' hL hs
   have Hbb:=Lib.hid fun w1 hg => below_b (w':=w1) h' hg
   clear h' hb1
   go_wp2_with fail
   refine hnx.mono ?_
   rintro e w1 ⟨rfl,h1,hg1⟩
   have H1:=Lib.hid h1
   have Hb1:=Lib.hid (Hb0.out.trans (Hbb.out w1 hg1))
   have HL1:=Lib.hid hL.adv
   clear h1 hg1 Hbb hnx hfig hnum c1 c2 hbl H HL Hb0
   generalize adv L = L1 at *
   go_wp2_with fail
   -- behind the number: H1 : RS w1 ..,HL1 : Cur s L1,HP : groupP L m = groupTail n at0 L1 m,Hb1 : Below base w w1,Hn : 1 ≤ n ∧ n ≤ 16
   have d1:=H1.out.rb.c1
   have d2:=H1.out.rb.c2
   have hbl1:=H1.out.bl
   have hft:=foot_any b (hd L1).2 w1 d2 hbl1 (by have:=HL1.out.size; omega)
   have T1:=Lib.hid (fun er => tail_err (n:=n) (at0:=at0) (L:=L1) (m:=m) (er:=er))
   have T2:=Lib.hid (tail_long (n:=n) (at0:=at0) (L:=L1) (m:=m))
   have T3:=Lib.hid (tail_ok (n:=n) (at0:=at0) (L:=L1) (m:=m))
   unfold FootOk at hft
   generalize hF : footB (hd L1).2 = F at *
   obtain ⟨own,er⟩:=F
   simp only [] at hft
   refine hft.mono ?_
   rintro e w2 ⟨rfl,hb2⟩
   have H2:=Lib.hid (H1.out.below hb2)
   have Hb2:=Lib.hid (Hb1.out.trans (hb2.mono H1.out.bs))
   have d1':=H2.out.rb.c1
   have d3:=H2.out.rb.c3
   have hbl2:=H2.out.bl
   clear hft hb2
   by_cases h0 : er = 0
   ·subst h0
    obtain ⟨A0,cc0,hvf⟩:=own_slice H2.out.feet
    subst hvf
    by_cases hlong : (m.feet.length : Int) + n ≤ 16
    ·have HP2:=Lib.hid (HP.out.trans (T3.out rfl hlong))
     clear T1 T2 T3
     have hn1:=Hn.out.1
     have hn2:=Hn.out.2
     go_wp2_with fail
     go_loopw [64] (fun q wr => ∃ (k : Nat) (vf' : Value) (vs' : List Value),(k : Int) ≤ n ∧ q = .int .i64 k ∧ RS wr base b s (hd L1).1 (hd L1).2 (m.more k own) ah vf' ve vb vs' ∧ Below base w wr) (fun q _ => (n).toNat - (intOf q).toNat)
     case atStart => exact ⟨0,_,vs,by have:=Hn.out; omega,rfl,by rw [Met.more_zero]; exact H2.out,Hb2.out⟩
     case round =>
      rename_i wr
      obtain ⟨k,vf',vs',hk,rfl,hr,hbr⟩:=hrel
      by_cases hlt : (k : Int) < n
      ·have f1:=hr.rb.c3
       have z1:=hr.rb.z 3
       have hrb:=hr.bl
       have hfe:=hr.feet
       rw [Met.more_len] at hfe
       have hmk : (m.more k own).feet.length = m.feet.length + k:=Met.more_len _ _ _
       obtain ⟨A,cc,hvs⟩:=own_slice hfe
       have hne : vf'.ownBlock ≠ some b:=by rcases own_neb hr.feet hr.rb (by decide) with e | e; · rw [e]; simp
                                            ·exact e
       have Hfoot:=Lib.hid fun (w4 : World) (v4 : Value) ho hg => hr.foot (w1:=w4) (own:=own) (v':=v4) (by rw [hmk]; exact ho) hg
       have hrs:=hr.bs
       have Hzc:=Lib.hid fun (w4 : World) (hg : wr.grownBy w4 vf'.ownBlock) => And.intro ((World.frozen?_of_block (w:=wr) (w':=w4) (a:=⟨b,3,none⟩) (hg.block b hrb (fun e => hne e.symm))).trans z1) ((World.cell?_of_block (w:=wr) (w':=w4) (a:=⟨b,3,none⟩) (hg.block b hrb (fun e => hne e.symm))).trans f1)
       have hfb : ∀ q,vf'.ownBlock = some q → base ≤ q:=fun q hq => (hfe.lt q hq).1
       have Hbel:=Lib.hid fun (w4 : World) (hg : wr.grownBy w4 vf'.ownBlock) (v4 : Value) => (hbr.grown hg hrs hfb).setCell (show base ≤ b from hr.hb) v4 (p:=⟨b,3,none⟩)
       have Hfe:=Lib.hid hfe
       have hk16 : m.feet.length + k < 16:=by omega
       clear hr hfe hfb hmk hne
       subst hvs
       go_wp2_with (at_builtin; go_loud (refine wpList_append_boxg _ rfl _ _ 75 rfl base 81 _ _ 2 40 Tryz.underlying75 info81 zero81 size81 bytes81 rfl (by decide) (.slice A (m.feet.length + k) cc) (m.feet.length + k) (ftCells (m.more k own).feet vs') _ _ rfl rfl ?c0 (by exact Hfe.out) rfl ?c1 ?c2 ?c3 ?c4 ?_; rotate_right; intro v1 w4 hown1 hg1 hat1; obtain ⟨g1,cap1,rfl⟩:=own_form hown1 (by omega); obtain ⟨hz1,hc3⟩:=Hzc.out _ hg1; have Hfin:=Lib.hid (Hfoot.out _ _ hown1 hg1); have Hfin2:=Lib.hid (Hbel.out _ hg1 (.slice (some ⟨g1,0,none⟩) (m.feet.length + k + 1) cap1)); clear hown1 hg1 hat1))
       case c0 => simp
       case c1 => exact ⟨rfl,rfl⟩
       case c2 => unfold maxLen; omega
       case c3 => omega
       case c4 => exact hrs
       go_roundw
       case rel => exact ⟨k + 1,_,_,by omega,by go_num,by rw [← Met.more_succ]; exact Hfin.out,Hfin2.out⟩
       case measure => simp [intOf]; omega
      ·have hkn : k = (n).toNat:=by omega
       have Hr:=Lib.hid hr
       have hnx:=next_rs hr HL1.out hs
       clear hr
       go_wp2_with fail
       refine hnx.mono ?_
       rintro e w5 ⟨rfl,h5,hg5⟩
       have Hb5:=Lib.hid (hbr.trans (below_b Hr.out hg5))
       have H5:=Lib.hid h5
       clear h5 hg5 hnx
       go_wp2_with fail
       go_ret2
       unfold PartOk
       rw [HP2.out]
       refine ⟨Hb5.out,rfl,HL1.out.adv,?_⟩
       rw [← hkn]
       exact ⟨_,_,_,_,H5.out⟩
    ·have HP2:=Lib.hid (HP.out.trans (T2.out rfl hlong))
     clear T1 T2 T3
     have hn1:=Hn.out.1
     have hn2:=Hn.out.2
     go_wp2_with fail
     go_ret2
     unfold PartOk
     rw [HP2.out]
     exact ⟨Hb2.out,rfl,by decide⟩
   ·have HP2:=Lib.hid (HP.out.trans (T1.out _ rfl h0))
    have h0' : (er != 0) = true:=by simpa using h0
    have H0:=Lib.hid h0
    clear T1 T2 T3 h0
    go_wp2_with fail
    go_quiet (fail)
    go_wp2_with fail
    go_ret2
    unfold PartOk
    rw [HP2.out]
    exact ⟨belowD Hb2.out _,rfl,H0.out⟩
  ·rw [if_neg h0] at hP
   have h0' : (er != 0) = true:=by simpa using h0
   have HP:=Lib.hid hP
   have H0:=Lib.hid h0
   clear hP hin hf hE h0
   go_enter Tryz.func143,Tryz.ntmps143
   go_wp2_with fail
   refine hfig.mono ?_
   rintro e w' ⟨rfl,rfl⟩
   go_wp2_with fail
   refine hnum.mono ?_
   rintro e w' ⟨rfl,hb1⟩
   have c1':=(hb1.cell (p:=⟨b,1,none⟩) hbl).trans c1
   have Hb:=Lib.hid (hb1.mono H.out.bs)
   go_wp2_with fail
   go_quiet (fail)
   go_wp2_with fail
   go_ret2
   unfold PartOk
   rw [HP.out]
   exact ⟨belowD Hb.out _,rfl,H0.out⟩
 | false =>
  rw [hf] at hfig hP
  rw [if_neg (by decide)] at hP
  have HP:=Lib.hid hP
  have Hn : Hid ((1 : Int) ≤ 1 ∧ (1 : Int) ≤ 16):=Lib.hid (by omega)
  have H1:=H
  have Hb1:=Lib.hid (Below.refl base w)
  clear hP hnum hin H
  go_enter Tryz.func143,Tryz.ntmps143
  go_wp2_with fail
  refine hfig.mono ?_
  rintro e w1 ⟨rfl,rfl⟩
  clear hfig hf
  go_wp2_with fail
  -- behind the number: H1 : RS w ..,HL : Cur s L,HP : groupP L m = groupTail n at0 L m,Hb1 : Below base w w,Hn : 1 ≤ n ∧ n ≤ 16
  have d1:=H1.out.rb.c1
  have d2:=H1.out.rb.c2
  have hbl1:=H1.out.bl
  have hft:=foot_any b (hd L).2 w d2 hbl1 (by have:=HL.out.size; omega)
  have T1:=Lib.hid (fun er => tail_err (n:=(1 : Int)) (at0:=at0) (L:=L) (m:=m) (er:=er))
  have T2:=Lib.hid (tail_long (n:=(1 : Int)) (at0:=at0) (L:=L) (m:=m))
  have T3:=Lib.hid (tail_ok (n:=(1 : Int)) (at0:=at0) (L:=L) (m:=m))
  unfold FootOk at hft
  generalize hF : footB (hd L).2 = F at *
  obtain ⟨own,er⟩:=F
  simp only [] at hft
  refine hft.mono ?_
  rintro e w2 ⟨rfl,hb2⟩
  have H2:=Lib.hid (H1.out.below hb2)
  have Hb2:=Lib.hid (Hb1.out.trans (hb2.mono H1.out.bs))
  have d1':=H2.out.rb.c1
  have d3:=H2.out.rb.c3
  have hbl2:=H2.out.bl
  clear hft hb2
  by_cases h0 : er = 0
  ·subst h0
   obtain ⟨A0,cc0,hvf⟩:=own_slice H2.out.feet
   subst hvf
   by_cases hlong : (m.feet.length : Int) + (1 : Int) ≤ 16
   ·have HP2:=Lib.hid (HP.out.trans (T3.out rfl hlong))
    clear T1 T2 T3
    have hn1:=Hn.out.1
    have hn2:=Hn.out.2
    go_wp2_with fail
    go_loopw [64] (fun q wr => ∃ (k : Nat) (vf' : Value) (vs' : List Value),(k : Int) ≤ (1 : Int) ∧ q = .int .i64 k ∧ RS wr base b s (hd L).1 (hd L).2 (m.more k own) ah vf' ve vb vs' ∧ Below base w wr) (fun q _ => ((1 : Int)).toNat - (intOf q).toNat)
    case atStart => exact ⟨0,_,vs,by have:=Hn.out; omega,rfl,by rw [Met.more_zero]; exact H2.out,Hb2.out⟩
    case round =>
     rename_i wr
     obtain ⟨k,vf',vs',hk,rfl,hr,hbr⟩:=hrel
     by_cases hlt : (k : Int) < (1 : Int)
     ·have f1:=hr.rb.c3
      have z1:=hr.rb.z 3
      have hrb:=hr.bl
      have hfe:=hr.feet
      rw [Met.more_len] at hfe
      have hmk : (m.more k own).feet.length = m.feet.length + k:=Met.more_len _ _ _
      obtain ⟨A,cc,hvs⟩:=own_slice hfe
      have hne : vf'.ownBlock ≠ some b:=by rcases own_neb hr.feet hr.rb (by decide) with e | e; · rw [e]; simp
                                           ·exact e
      have Hfoot:=Lib.hid fun (w4 : World) (v4 : Value) ho hg => hr.foot (w1:=w4) (own:=own) (v':=v4) (by rw [hmk]; exact ho) hg
      have hrs:=hr.bs
      have Hzc:=Lib.hid fun (w4 : World) (hg : wr.grownBy w4 vf'.ownBlock) => And.intro ((World.frozen?_of_block (w:=wr) (w':=w4) (a:=⟨b,3,none⟩) (hg.block b hrb (fun e => hne e.symm))).trans z1) ((World.cell?_of_block (w:=wr) (w':=w4) (a:=⟨b,3,none⟩) (hg.block b hrb (fun e => hne e.symm))).trans f1)
      have hfb : ∀ q,vf'.ownBlock = some q → base ≤ q:=fun q hq => (hfe.lt q hq).1
      have Hbel:=Lib.hid fun (w4 : World) (hg : wr.grownBy w4 vf'.ownBlock) (v4 : Value) => (hbr.grown hg hrs hfb).setCell (show base ≤ b from hr.hb) v4 (p:=⟨b,3,none⟩)
      have Hfe:=Lib.hid hfe
      have hk16 : m.feet.length + k < 16:=by omega
      clear hr hfe hfb hmk hne
      subst hvs
      go_wp2_with (at_builtin; go_loud (refine wpList_append_boxg _ rfl _ _ 75 rfl base 81 _ _ 2 40 Tryz.underlying75 info81 zero81 size81 bytes81 rfl (by decide) (.slice A (m.feet.length + k) cc) (m.feet.length + k) (ftCells (m.more k own).feet vs') _ _ rfl rfl ?c0 (by exact Hfe.out) rfl ?c1 ?c2 ?c3 ?c4 ?_; rotate_right; intro v1 w4 hown1 hg1 hat1; obtain ⟨g1,cap1,rfl⟩:=own_form hown1 (by omega); obtain ⟨hz1,hc3⟩:=Hzc.out _ hg1; have Hfin:=Lib.hid (Hfoot.out _ _ hown1 hg1); have Hfin2:=Lib.hid (Hbel.out _ hg1 (.slice (some ⟨g1,0,none⟩) (m.feet.length + k + 1) cap1)); clear hown1 hg1 hat1))
      case c0 => simp
      case c1 => exact ⟨rfl,rfl⟩
      case c2 => unfold maxLen; omega
      case c3 => omega
      case c4 => exact hrs
      go_roundw
      case rel => exact ⟨k + 1,_,_,by omega,by go_num,by rw [← Met.more_succ]; exact Hfin.out,Hfin2.out⟩
      case measure => simp [intOf]; omega
     ·have hkn : k = ((1 : Int)).toNat:=by omega
      have Hr:=Lib.hid hr
      have hnx:=next_rs hr HL.out hs
      clear hr
      go_wp2_with fail
      refine hnx.mono ?_
      rintro e w5 ⟨rfl,h5,hg5⟩
      have Hb5:=Lib.hid (hbr.trans (below_b Hr.out hg5))
      have H5:=Lib.hid h5
      clear h5 hg5 hnx
      go_wp2_with fail
      go_ret2
      unfold PartOk
      rw [HP2.out]
      refine ⟨Hb5.out,rfl,HL.out.adv,?_⟩
      rw [← hkn]
      exact ⟨_,_,_,_,H5.out⟩
   ·have HP2:=Lib.hid (HP.out.trans (T2.out rfl hlong))
    clear T1 T2 T3
    have hn1:=Hn.out.1
    have hn2:=Hn.out.2
    go_wp2_with fail
    go_ret2
    unfold PartOk
    rw [HP2.out]
    exact ⟨Hb2.out,rfl,by decide⟩
  ·have HP2:=Lib.hid (HP.out.trans (T1.out _ rfl h0))
   have h0' : (er != 0) = true:=by simpa using h0
   have H0:=Lib.hid h0
   clear T1 T2 T3 h0
   go_wp2_with fail
   go_quiet (fail)
   go_wp2_with fail
   go_ret2
   unfold PartOk
   rw [HP2.out]
   exact ⟨belowD Hb2.out _,rfl,H0.out⟩
end Go.Proofs.YtgklikkddckgbaaGreatDoor
namespace Go.Proofs.YtgklikkddckgbaaGreatDoor
set_option linter.unusedVariables false
set_option linter.unusedSimpArgs false
open Go.RowKit
structure Sized (m : Met) : Prop where
 feet : m.feet.length ≤ 16
 ways : ∀ k,k < m.feet.length → (m.feet.getD k default).ways.length ≤ 15
 ends : m.ends.length ≤ 4
 brk : (m.brks.length : Int) ≤ aheadOf m ∧ aheadOf m ≤ 16
variable {w : World} {base b a : Nat} {s t : ByteArray} {m : Met} {ah : Int} {vf ve vb : Value} {vs : List Value}
theorem RS.isFeet {g cap : Nat} (h : RS w base b s a t m ah (.slice (some ⟨g,0,none⟩) m.feet.length cap) ve vb vs) (i n : Nat) (hin : i + n ≤ m.feet.length) : IsFeet w w.heap.size (some ⟨g,i * 2,none⟩) ((m.feet.drop i).take n):=fun hl => by
 refine ⟨g,i * 2,rfl,(h.feet.lt g rfl).2,fun k hk => ?_⟩
 have hkn : k < n:=by simp at hk; omega
 have hg:=ftCells_get m.feet vs (i + k) h.vl (by omega)
 have e1 : i * 2 + k * 2 = (i + k) * 2:=by omega
 have e2 : ((m.feet.drop i).take n).getD k default = m.feet.getD (i + k) default:=by
  simp only [List.getD_eq_getElem?_getD,List.getElem?_take,if_pos hkn,List.getElem?_drop]
 obtain ⟨A,c,hv,hc,hw⟩:=own_ways (h.ways (i + k) (by omega))
 unfold FtAt
 rw [e1,e2,h.feet.cellAt ((i + k) * 2) (by omega),h.feet.cellAt ((i + k) * 2 + 1) (by omega),hg.1,hg.2,hv]
 exact ⟨rfl,A,c,rfl,hc,hw⟩
theorem sub_len {α : Type} (l : List α) (i n : Nat) (h : i + n ≤ l.length) : ((l.drop i).take n).length = n:=by simp; omega
theorem sub_all {P : Ft → Prop} {l : List Ft} (h : ∀ k,k < l.length → P (l.getD k default)) (i n : Nat) : ∀ f ∈ (l.drop i).take n,P f:=fun f hf => by
 have h1:=List.mem_of_mem_drop (List.mem_of_mem_take hf)
 obtain ⟨k,hk,e⟩:=List.getElem_of_mem h1
 have:=h k hk
 rw [List.getD_eq_getElem?_getD,List.getElem?_eq_getElem hk] at this
 rw [← e]; exact this
theorem laysE_zero {fs : List Ft} {sg : ByteArray} {all : Bool} (h : laysE fs sg all = 0) : ∀ f ∈ fs,longF sg all f = false:=by
 unfold laysE at h
 by_cases h1 : fs.any (againF sg all) = true
 ·rw [if_pos h1] at h; exact absurd h (by decide)
 ·rw [if_neg h1] at h
  by_cases h2 : fs.any (longF sg all) = true
  ·rw [if_pos h2] at h; exact absurd h (by decide)
  ·intro f hf
   have:=h2
   rw [Bool.not_eq_true,List.any_eq_false] at this
   simpa using this f hf
theorem layF_len {sg : ByteArray} {c : Int} {all : Bool} {f : Ft} (h : longF sg all f = false) (hf : f.ways.length ≤ 15) : (layF sg c all f).ways.length ≤ 15:=by
 unfold layF
 split
 ·rename_i hy
  unfold longF at h
  have e : (!(all && eqS f.own sg)) = true:=by cases all <;> cases hq : eqS f.own sg <;> simp [hq] at hy ⊢
  rw [e,Bool.true_and] at h
  have:=of_decide_eq_false h
  simp; omega
 ·exact hf
theorem layR_sized (h : Sized m) {i n : Nat} (hin : i + n ≤ m.feet.length) {sg : ByteArray} {c : Int} {all : Bool} (h0 : laysE ((m.feet.drop i).take n) sg all = 0) : Sized { m with feet:=layR m.feet i n sg c all }:=by
 refine ⟨by rw [layR_len _ _ _ _ _ _ hin]; exact h.feet,fun k hk => ?_,h.ends,h.brk⟩
 simp only [] at hk ⊢
 rw [layR_len _ _ _ _ _ _ hin] at hk
 rw [layR_get _ _ _ _ _ _ _ hin hk]
 split
 ·rename_i hik
  refine layF_len (laysE_zero h0 _ ?_) (h.ways k hk)
  have e2 : ((m.feet.drop i).take n)[k - i]? = some (m.feet.getD k default):=by
   rw [List.getElem?_take,if_pos (by omega),List.getElem?_drop,show i + (k - i) = k by omega,List.getD_eq_getElem?_getD,List.getElem?_eq_getElem hk]; rfl
  exact List.mem_of_getElem? e2
 ·exact h.ways k hk
/-- what a clause's part comes to -/
def ClOk (base b : Nat) (s : ByteArray) (w : World) (r : Res) (e : Ending) (w' : World) : Prop:=
 Below base w w' ∧ match r with
 | .error (c,p) => e = .returned (.int .i64 c) ∧ c ≠ 0 ∧ w'.cell? ⟨b,1,none⟩ = some (.int .i64 p)
 | .ok (L',m') => e = .returned (.int .i64 0) ∧ Cur s L' ∧ Sized m' ∧ ∃ vf ve vb vs,RS w' base b s (hd L').1 (hd L').2 m' (aheadOf m') vf ve vb vs
variable {f : Nat} {L : List Tok} {i n : Nat} {all : Bool} {sg : ByteArray} {er nn : Int}
theorem ways_foot (h : (footB (hd L).2).2 = er) (h0 : er ≠ 0) : waysP (f + 1) L m i n all = .error (er,(hd L).1):=by
 unfold waysP; rw [h,if_neg h0]
theorem ways_lays (h : footB (hd L).2 = (sg,0)) (h1 : laysE ((m.feet.drop i).take n) sg all = er) (h0 : er ≠ 0) : waysP (f + 1) L m i n all = .error (er,(hd L).1):=by
 unfold waysP; rw [h]; simp only []; rw [h1,if_pos trivial,if_neg h0]
theorem ways_num (h : footB (hd L).2 = (sg,0)) (h1 : laysE ((m.feet.drop i).take n) sg all = 0) (h2 : (numE (hd (adv L)).2 0 1048576).2 = er) (h0 : er ≠ 0) : waysP (f + 1) L m i n all = .error (er,(hd (adv L)).1):=by
 unfold waysP; simp only [h,h1,h2,if_true,if_neg h0]
theorem ways_more (h : footB (hd L).2 = (sg,0)) (h1 : laysE ((m.feet.drop i).take n) sg all = 0) (h2 : numE (hd (adv L)).2 0 1048576 = (nn,0)) (h3 : eqS (hd (adv (adv L))).2 COMMA = true) :
  waysP (f + 1) L m i n all = waysP f (adv (adv (adv L))) { m with feet:=layR m.feet i n sg nn all } i n all:=by
 conv => lhs; unfold waysP
 simp only [h,h1,h2,h3,if_true]
theorem ways_done (h : footB (hd L).2 = (sg,0)) (h1 : laysE ((m.feet.drop i).take n) sg all = 0) (h2 : numE (hd (adv L)).2 0 1048576 = (nn,0)) (h3 : eqS (hd (adv (adv L))).2 COMMA = false) :
  waysP (f + 1) L m i n all = .ok (adv (adv L), { m with feet:=layR m.feet i n sg nn all }):=by
 unfold waysP; simp [h,h1,h2,h3]
/-- behind a comma -/
theorem comma_lt (hL : Cur s L) (h : eqS (hd L).2 COMMA = true) : (adv L).length < L.length:=by
 obtain ⟨p,hp,rfl⟩:=hL
 refine adv_lt fun e => ?_
 rw [e] at h
 exact absurd h (by decide +kernel)
end Go.Proofs.YtgklikkddckgbaaGreatDoor
