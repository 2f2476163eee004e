/-
  Ax, Bs4, Bs7, Bs8, Y8, Y9, Ya, Yb, Yc, Yd in one text.
-/
import Derived.Test.YtepaaochgljcdaaGreatDoorEv3
import Derived.Test.YtepaaochgljcdaaGreatDoorS08
import Derived.Test.YtepaaochgljcdaaGreatDoorCl
set_option maxRecDepth 100000
set_option maxHeartbeats 8000000
namespace Go.Proofs.YtepaaochgljcdaaGreatDoor
section
open Go.RowKit
theorem put17_head {w:World} {b:Nat} {T:TypeId} {a0 a1 a2 a3 a4 a5 a6 a7 a8 a9 a10 a11 a12 a13 a14 a15 a16:Value} (h:w.heap[b]?=some (.cells #[a0,a1,a2,a3,a4,a5,a6,a7,a8,a9,a10,a11,a12,a13,a14,a15,a16] T (0,0))) (y0 y1 y2 y3 y4:Value) :
  (((((w.setCell ⟨b,0,none⟩ y0).setCell ⟨b,1,none⟩ y1).setCell ⟨b,2,none⟩ y2).setCell ⟨b,3,none⟩ y3).setCell ⟨b,4,none⟩ y4).heap[b]?=some (.cells #[y0,y1,y2,y3,y4,a5,a6,a7,a8,a9,a10,a11,a12,a13,a14,a15,a16] T (0,0))∧Fr [b] w (((((w.setCell ⟨b,0,none⟩ y0).setCell ⟨b,1,none⟩ y1).setCell ⟨b,2,none⟩ y2).setCell ⟨b,3,none⟩ y3).setCell ⟨b,4,none⟩ y4):=by
 have h0:(w.setCell ⟨b,0,none⟩ y0).heap[b]?=some (.cells #[y0,a1,a2,a3,a4,a5,a6,a7,a8,a9,a10,a11,a12,a13,a14,a15,a16] T (0,0)):=heap_setN h 0 y0;have h1:((w.setCell ⟨b,0,none⟩ y0).setCell ⟨b,1,none⟩ y1).heap[b]?=some (.cells #[y0,y1,a2,a3,a4,a5,a6,a7,a8,a9,a10,a11,a12,a13,a14,a15,a16] T (0,0)):=heap_setN h0 1 y1;have h2:(((w.setCell ⟨b,0,none⟩ y0).setCell ⟨b,1,none⟩ y1).setCell ⟨b,2,none⟩ y2).heap[b]?=some (.cells #[y0,y1,y2,a3,a4,a5,a6,a7,a8,a9,a10,a11,a12,a13,a14,a15,a16] T (0,0)):=heap_setN h1 2 y2;have h3:((((w.setCell ⟨b,0,none⟩ y0).setCell ⟨b,1,none⟩ y1).setCell ⟨b,2,none⟩ y2).setCell ⟨b,3,none⟩ y3).heap[b]?=some (.cells #[y0,y1,y2,y3,a4,a5,a6,a7,a8,a9,a10,a11,a12,a13,a14,a15,a16] T (0,0)):=heap_setN h2 3 y3;have h4:(((((w.setCell ⟨b,0,none⟩ y0).setCell ⟨b,1,none⟩ y1).setCell ⟨b,2,none⟩ y2).setCell ⟨b,3,none⟩ y3).setCell ⟨b,4,none⟩ y4).heap[b]?=some (.cells #[y0,y1,y2,y3,y4,a5,a6,a7,a8,a9,a10,a11,a12,a13,a14,a15,a16] T (0,0)):=heap_setN h3 4 y4;exact⟨h4,(((((Fr.refl [b] w).setCell ⟨b,0,none⟩ (List.mem_singleton.2 rfl) y0).setCell ⟨b,1,none⟩ (List.mem_singleton.2 rfl) y1).setCell ⟨b,2,none⟩ (List.mem_singleton.2 rfl) y2).setCell ⟨b,3,none⟩ (List.mem_singleton.2 rfl) y3).setCell ⟨b,4,none⟩ (List.mem_singleton.2 rfl) y4⟩
theorem put17_tail {w:World} {b:Nat} {T:TypeId} {a0 a1 a2 a3 a4 a5 a6 a7 a8 a9 a10 a11 a12 a13 a14 a15 a16:Value} (h:w.heap[b]?=some (.cells #[a0,a1,a2,a3,a4,a5,a6,a7,a8,a9,a10,a11,a12,a13,a14,a15,a16] T (0,0))) (y5 y6 y7 y8 y9 y10 y11 y12 y13 y14 y15 y16:Value) :
  ((((((((((((w.setCell ⟨b,5,none⟩ y5).setCell ⟨b,6,none⟩ y6).setCell ⟨b,7,none⟩ y7).setCell ⟨b,8,none⟩ y8).setCell ⟨b,9,none⟩ y9).setCell ⟨b,10,none⟩ y10).setCell ⟨b,11,none⟩ y11).setCell ⟨b,12,none⟩ y12).setCell ⟨b,13,none⟩ y13).setCell ⟨b,14,none⟩ y14).setCell ⟨b,15,none⟩ y15).setCell ⟨b,16,none⟩ y16).heap[b]?=some (.cells #[a0,a1,a2,a3,a4,y5,y6,y7,y8,y9,y10,y11,y12,y13,y14,y15,y16] T (0,0))∧Fr [b] w ((((((((((((w.setCell ⟨b,5,none⟩ y5).setCell ⟨b,6,none⟩ y6).setCell ⟨b,7,none⟩ y7).setCell ⟨b,8,none⟩ y8).setCell ⟨b,9,none⟩ y9).setCell ⟨b,10,none⟩ y10).setCell ⟨b,11,none⟩ y11).setCell ⟨b,12,none⟩ y12).setCell ⟨b,13,none⟩ y13).setCell ⟨b,14,none⟩ y14).setCell ⟨b,15,none⟩ y15).setCell ⟨b,16,none⟩ y16):=by
 have h5:(w.setCell ⟨b,5,none⟩ y5).heap[b]?=some (.cells #[a0,a1,a2,a3,a4,y5,a6,a7,a8,a9,a10,a11,a12,a13,a14,a15,a16] T (0,0)):=heap_setN h 5 y5;have h6:((w.setCell ⟨b,5,none⟩ y5).setCell ⟨b,6,none⟩ y6).heap[b]?=some (.cells #[a0,a1,a2,a3,a4,y5,y6,a7,a8,a9,a10,a11,a12,a13,a14,a15,a16] T (0,0)):=heap_setN h5 6 y6;have h7:(((w.setCell ⟨b,5,none⟩ y5).setCell ⟨b,6,none⟩ y6).setCell ⟨b,7,none⟩ y7).heap[b]?=some (.cells #[a0,a1,a2,a3,a4,y5,y6,y7,a8,a9,a10,a11,a12,a13,a14,a15,a16] T (0,0)):=heap_setN h6 7 y7;have h8:((((w.setCell ⟨b,5,none⟩ y5).setCell ⟨b,6,none⟩ y6).setCell ⟨b,7,none⟩ y7).setCell ⟨b,8,none⟩ y8).heap[b]?=some (.cells #[a0,a1,a2,a3,a4,y5,y6,y7,y8,a9,a10,a11,a12,a13,a14,a15,a16] T (0,0)):=heap_setN h7 8 y8;have h9:(((((w.setCell ⟨b,5,none⟩ y5).setCell ⟨b,6,none⟩ y6).setCell ⟨b,7,none⟩ y7).setCell ⟨b,8,none⟩ y8).setCell ⟨b,9,none⟩ y9).heap[b]?=some (.cells #[a0,a1,a2,a3,a4,y5,y6,y7,y8,y9,a10,a11,a12,a13,a14,a15,a16] T (0,0)):=heap_setN h8 9 y9;have h10:((((((w.setCell ⟨b,5,none⟩ y5).setCell ⟨b,6,none⟩ y6).setCell ⟨b,7,none⟩ y7).setCell ⟨b,8,none⟩ y8).setCell ⟨b,9,none⟩ y9).setCell ⟨b,10,none⟩ y10).heap[b]?=some (.cells #[a0,a1,a2,a3,a4,y5,y6,y7,y8,y9,y10,a11,a12,a13,a14,a15,a16] T (0,0)):=heap_setN h9 10 y10;have h11:(((((((w.setCell ⟨b,5,none⟩ y5).setCell ⟨b,6,none⟩ y6).setCell ⟨b,7,none⟩ y7).setCell ⟨b,8,none⟩ y8).setCell ⟨b,9,none⟩ y9).setCell ⟨b,10,none⟩ y10).setCell ⟨b,11,none⟩ y11).heap[b]?=some (.cells #[a0,a1,a2,a3,a4,y5,y6,y7,y8,y9,y10,y11,a12,a13,a14,a15,a16] T (0,0)):=heap_setN h10 11 y11;have h12:((((((((w.setCell ⟨b,5,none⟩ y5).setCell ⟨b,6,none⟩ y6).setCell ⟨b,7,none⟩ y7).setCell ⟨b,8,none⟩ y8).setCell ⟨b,9,none⟩ y9).setCell ⟨b,10,none⟩ y10).setCell ⟨b,11,none⟩ y11).setCell ⟨b,12,none⟩ y12).heap[b]?=some (.cells #[a0,a1,a2,a3,a4,y5,y6,y7,y8,y9,y10,y11,y12,a13,a14,a15,a16] T (0,0)):=heap_setN h11 12 y12;have h13:(((((((((w.setCell ⟨b,5,none⟩ y5).setCell ⟨b,6,none⟩ y6).setCell ⟨b,7,none⟩ y7).setCell ⟨b,8,none⟩ y8).setCell ⟨b,9,none⟩ y9).setCell ⟨b,10,none⟩ y10).setCell ⟨b,11,none⟩ y11).setCell ⟨b,12,none⟩ y12).setCell ⟨b,13,none⟩ y13).heap[b]?=some (.cells #[a0,a1,a2,a3,a4,y5,y6,y7,y8,y9,y10,y11,y12,y13,a14,a15,a16] T (0,0)):=heap_setN h12 13 y13;have h14:((((((((((w.setCell ⟨b,5,none⟩ y5).setCell ⟨b,6,none⟩ y6).setCell ⟨b,7,none⟩ y7).setCell ⟨b,8,none⟩ y8).setCell ⟨b,9,none⟩ y9).setCell ⟨b,10,none⟩ y10).setCell ⟨b,11,none⟩ y11).setCell ⟨b,12,none⟩ y12).setCell ⟨b,13,none⟩ y13).setCell ⟨b,14,none⟩ y14).heap[b]?=some (.cells #[a0,a1,a2,a3,a4,y5,y6,y7,y8,y9,y10,y11,y12,y13,y14,a15,a16] T (0,0)):=heap_setN h13 14 y14;have h15:(((((((((((w.setCell ⟨b,5,none⟩ y5).setCell ⟨b,6,none⟩ y6).setCell ⟨b,7,none⟩ y7).setCell ⟨b,8,none⟩ y8).setCell ⟨b,9,none⟩ y9).setCell ⟨b,10,none⟩ y10).setCell ⟨b,11,none⟩ y11).setCell ⟨b,12,none⟩ y12).setCell ⟨b,13,none⟩ y13).setCell ⟨b,14,none⟩ y14).setCell ⟨b,15,none⟩ y15).heap[b]?=some (.cells #[a0,a1,a2,a3,a4,y5,y6,y7,y8,y9,y10,y11,y12,y13,y14,y15,a16] T (0,0)):=heap_setN h14 15 y15;have h16:((((((((((((w.setCell ⟨b,5,none⟩ y5).setCell ⟨b,6,none⟩ y6).setCell ⟨b,7,none⟩ y7).setCell ⟨b,8,none⟩ y8).setCell ⟨b,9,none⟩ y9).setCell ⟨b,10,none⟩ y10).setCell ⟨b,11,none⟩ y11).setCell ⟨b,12,none⟩ y12).setCell ⟨b,13,none⟩ y13).setCell ⟨b,14,none⟩ y14).setCell ⟨b,15,none⟩ y15).setCell ⟨b,16,none⟩ y16).heap[b]?=some (.cells #[a0,a1,a2,a3,a4,y5,y6,y7,y8,y9,y10,y11,y12,y13,y14,y15,y16] T (0,0)):=heap_setN h15 16 y16;exact⟨h16,((((((((((((Fr.refl [b] w).setCell ⟨b,5,none⟩ (List.mem_singleton.2 rfl) y5).setCell ⟨b,6,none⟩ (List.mem_singleton.2 rfl) y6).setCell ⟨b,7,none⟩ (List.mem_singleton.2 rfl) y7).setCell ⟨b,8,none⟩ (List.mem_singleton.2 rfl) y8).setCell ⟨b,9,none⟩ (List.mem_singleton.2 rfl) y9).setCell ⟨b,10,none⟩ (List.mem_singleton.2 rfl) y10).setCell ⟨b,11,none⟩ (List.mem_singleton.2 rfl) y11).setCell ⟨b,12,none⟩ (List.mem_singleton.2 rfl) y12).setCell ⟨b,13,none⟩ (List.mem_singleton.2 rfl) y13).setCell ⟨b,14,none⟩ (List.mem_singleton.2 rfl) y14).setCell ⟨b,15,none⟩ (List.mem_singleton.2 rfl) y15).setCell ⟨b,16,none⟩ (List.mem_singleton.2 rfl) y16⟩
theorem put17_all {w:World} {b:Nat} {T:TypeId} {a0 a1 a2 a3 a4 a5 a6 a7 a8 a9 a10 a11 a12 a13 a14 a15 a16:Value} (h:w.heap[b]?=some (.cells #[a0,a1,a2,a3,a4,a5,a6,a7,a8,a9,a10,a11,a12,a13,a14,a15,a16] T (0,0))) (y0 y1 y2 y3 y4 y5 y6 y7 y8 y9 y10 y11 y12 y13 y14 y15 y16:Value) :
  (((((((((((((((((w.setCell ⟨b,0,none⟩ y0).setCell ⟨b,1,none⟩ y1).setCell ⟨b,2,none⟩ y2).setCell ⟨b,3,none⟩ y3).setCell ⟨b,4,none⟩ y4).setCell ⟨b,5,none⟩ y5).setCell ⟨b,6,none⟩ y6).setCell ⟨b,7,none⟩ y7).setCell ⟨b,8,none⟩ y8).setCell ⟨b,9,none⟩ y9).setCell ⟨b,10,none⟩ y10).setCell ⟨b,11,none⟩ y11).setCell ⟨b,12,none⟩ y12).setCell ⟨b,13,none⟩ y13).setCell ⟨b,14,none⟩ y14).setCell ⟨b,15,none⟩ y15).setCell ⟨b,16,none⟩ y16).heap[b]?=some (.cells #[y0,y1,y2,y3,y4,y5,y6,y7,y8,y9,y10,y11,y12,y13,y14,y15,y16] T (0,0))∧Fr [b] w (((((((((((((((((w.setCell ⟨b,0,none⟩ y0).setCell ⟨b,1,none⟩ y1).setCell ⟨b,2,none⟩ y2).setCell ⟨b,3,none⟩ y3).setCell ⟨b,4,none⟩ y4).setCell ⟨b,5,none⟩ y5).setCell ⟨b,6,none⟩ y6).setCell ⟨b,7,none⟩ y7).setCell ⟨b,8,none⟩ y8).setCell ⟨b,9,none⟩ y9).setCell ⟨b,10,none⟩ y10).setCell ⟨b,11,none⟩ y11).setCell ⟨b,12,none⟩ y12).setCell ⟨b,13,none⟩ y13).setCell ⟨b,14,none⟩ y14).setCell ⟨b,15,none⟩ y15).setCell ⟨b,16,none⟩ y16):=by
 have h0:(w.setCell ⟨b,0,none⟩ y0).heap[b]?=some (.cells #[y0,a1,a2,a3,a4,a5,a6,a7,a8,a9,a10,a11,a12,a13,a14,a15,a16] T (0,0)):=heap_setN h 0 y0;have h1:((w.setCell ⟨b,0,none⟩ y0).setCell ⟨b,1,none⟩ y1).heap[b]?=some (.cells #[y0,y1,a2,a3,a4,a5,a6,a7,a8,a9,a10,a11,a12,a13,a14,a15,a16] T (0,0)):=heap_setN h0 1 y1;have h2:(((w.setCell ⟨b,0,none⟩ y0).setCell ⟨b,1,none⟩ y1).setCell ⟨b,2,none⟩ y2).heap[b]?=some (.cells #[y0,y1,y2,a3,a4,a5,a6,a7,a8,a9,a10,a11,a12,a13,a14,a15,a16] T (0,0)):=heap_setN h1 2 y2;have h3:((((w.setCell ⟨b,0,none⟩ y0).setCell ⟨b,1,none⟩ y1).setCell ⟨b,2,none⟩ y2).setCell ⟨b,3,none⟩ y3).heap[b]?=some (.cells #[y0,y1,y2,y3,a4,a5,a6,a7,a8,a9,a10,a11,a12,a13,a14,a15,a16] T (0,0)):=heap_setN h2 3 y3;have h4:(((((w.setCell ⟨b,0,none⟩ y0).setCell ⟨b,1,none⟩ y1).setCell ⟨b,2,none⟩ y2).setCell ⟨b,3,none⟩ y3).setCell ⟨b,4,none⟩ y4).heap[b]?=some (.cells #[y0,y1,y2,y3,y4,a5,a6,a7,a8,a9,a10,a11,a12,a13,a14,a15,a16] T (0,0)):=heap_setN h3 4 y4;have h5:((((((w.setCell ⟨b,0,none⟩ y0).setCell ⟨b,1,none⟩ y1).setCell ⟨b,2,none⟩ y2).setCell ⟨b,3,none⟩ y3).setCell ⟨b,4,none⟩ y4).setCell ⟨b,5,none⟩ y5).heap[b]?=some (.cells #[y0,y1,y2,y3,y4,y5,a6,a7,a8,a9,a10,a11,a12,a13,a14,a15,a16] T (0,0)):=heap_setN h4 5 y5;have h6:(((((((w.setCell ⟨b,0,none⟩ y0).setCell ⟨b,1,none⟩ y1).setCell ⟨b,2,none⟩ y2).setCell ⟨b,3,none⟩ y3).setCell ⟨b,4,none⟩ y4).setCell ⟨b,5,none⟩ y5).setCell ⟨b,6,none⟩ y6).heap[b]?=some (.cells #[y0,y1,y2,y3,y4,y5,y6,a7,a8,a9,a10,a11,a12,a13,a14,a15,a16] T (0,0)):=heap_setN h5 6 y6;have h7:((((((((w.setCell ⟨b,0,none⟩ y0).setCell ⟨b,1,none⟩ y1).setCell ⟨b,2,none⟩ y2).setCell ⟨b,3,none⟩ y3).setCell ⟨b,4,none⟩ y4).setCell ⟨b,5,none⟩ y5).setCell ⟨b,6,none⟩ y6).setCell ⟨b,7,none⟩ y7).heap[b]?=some (.cells #[y0,y1,y2,y3,y4,y5,y6,y7,a8,a9,a10,a11,a12,a13,a14,a15,a16] T (0,0)):=heap_setN h6 7 y7;have h8:(((((((((w.setCell ⟨b,0,none⟩ y0).setCell ⟨b,1,none⟩ y1).setCell ⟨b,2,none⟩ y2).setCell ⟨b,3,none⟩ y3).setCell ⟨b,4,none⟩ y4).setCell ⟨b,5,none⟩ y5).setCell ⟨b,6,none⟩ y6).setCell ⟨b,7,none⟩ y7).setCell ⟨b,8,none⟩ y8).heap[b]?=some (.cells #[y0,y1,y2,y3,y4,y5,y6,y7,y8,a9,a10,a11,a12,a13,a14,a15,a16] T (0,0)):=heap_setN h7 8 y8;have h9:((((((((((w.setCell ⟨b,0,none⟩ y0).setCell ⟨b,1,none⟩ y1).setCell ⟨b,2,none⟩ y2).setCell ⟨b,3,none⟩ y3).setCell ⟨b,4,none⟩ y4).setCell ⟨b,5,none⟩ y5).setCell ⟨b,6,none⟩ y6).setCell ⟨b,7,none⟩ y7).setCell ⟨b,8,none⟩ y8).setCell ⟨b,9,none⟩ y9).heap[b]?=some (.cells #[y0,y1,y2,y3,y4,y5,y6,y7,y8,y9,a10,a11,a12,a13,a14,a15,a16] T (0,0)):=heap_setN h8 9 y9;have h10:(((((((((((w.setCell ⟨b,0,none⟩ y0).setCell ⟨b,1,none⟩ y1).setCell ⟨b,2,none⟩ y2).setCell ⟨b,3,none⟩ y3).setCell ⟨b,4,none⟩ y4).setCell ⟨b,5,none⟩ y5).setCell ⟨b,6,none⟩ y6).setCell ⟨b,7,none⟩ y7).setCell ⟨b,8,none⟩ y8).setCell ⟨b,9,none⟩ y9).setCell ⟨b,10,none⟩ y10).heap[b]?=some (.cells #[y0,y1,y2,y3,y4,y5,y6,y7,y8,y9,y10,a11,a12,a13,a14,a15,a16] T (0,0)):=heap_setN h9 10 y10;have h11:((((((((((((w.setCell ⟨b,0,none⟩ y0).setCell ⟨b,1,none⟩ y1).setCell ⟨b,2,none⟩ y2).setCell ⟨b,3,none⟩ y3).setCell ⟨b,4,none⟩ y4).setCell ⟨b,5,none⟩ y5).setCell ⟨b,6,none⟩ y6).setCell ⟨b,7,none⟩ y7).setCell ⟨b,8,none⟩ y8).setCell ⟨b,9,none⟩ y9).setCell ⟨b,10,none⟩ y10).setCell ⟨b,11,none⟩ y11).heap[b]?=some (.cells #[y0,y1,y2,y3,y4,y5,y6,y7,y8,y9,y10,y11,a12,a13,a14,a15,a16] T (0,0)):=heap_setN h10 11 y11;have h12:(((((((((((((w.setCell ⟨b,0,none⟩ y0).setCell ⟨b,1,none⟩ y1).setCell ⟨b,2,none⟩ y2).setCell ⟨b,3,none⟩ y3).setCell ⟨b,4,none⟩ y4).setCell ⟨b,5,none⟩ y5).setCell ⟨b,6,none⟩ y6).setCell ⟨b,7,none⟩ y7).setCell ⟨b,8,none⟩ y8).setCell ⟨b,9,none⟩ y9).setCell ⟨b,10,none⟩ y10).setCell ⟨b,11,none⟩ y11).setCell ⟨b,12,none⟩ y12).heap[b]?=some (.cells #[y0,y1,y2,y3,y4,y5,y6,y7,y8,y9,y10,y11,y12,a13,a14,a15,a16] T (0,0)):=heap_setN h11 12 y12;have h13:((((((((((((((w.setCell ⟨b,0,none⟩ y0).setCell ⟨b,1,none⟩ y1).setCell ⟨b,2,none⟩ y2).setCell ⟨b,3,none⟩ y3).setCell ⟨b,4,none⟩ y4).setCell ⟨b,5,none⟩ y5).setCell ⟨b,6,none⟩ y6).setCell ⟨b,7,none⟩ y7).setCell ⟨b,8,none⟩ y8).setCell ⟨b,9,none⟩ y9).setCell ⟨b,10,none⟩ y10).setCell ⟨b,11,none⟩ y11).setCell ⟨b,12,none⟩ y12).setCell ⟨b,13,none⟩ y13).heap[b]?=some (.cells #[y0,y1,y2,y3,y4,y5,y6,y7,y8,y9,y10,y11,y12,y13,a14,a15,a16] T (0,0)):=heap_setN h12 13 y13;have h14:(((((((((((((((w.setCell ⟨b,0,none⟩ y0).setCell ⟨b,1,none⟩ y1).setCell ⟨b,2,none⟩ y2).setCell ⟨b,3,none⟩ y3).setCell ⟨b,4,none⟩ y4).setCell ⟨b,5,none⟩ y5).setCell ⟨b,6,none⟩ y6).setCell ⟨b,7,none⟩ y7).setCell ⟨b,8,none⟩ y8).setCell ⟨b,9,none⟩ y9).setCell ⟨b,10,none⟩ y10).setCell ⟨b,11,none⟩ y11).setCell ⟨b,12,none⟩ y12).setCell ⟨b,13,none⟩ y13).setCell ⟨b,14,none⟩ y14).heap[b]?=some (.cells #[y0,y1,y2,y3,y4,y5,y6,y7,y8,y9,y10,y11,y12,y13,y14,a15,a16] T (0,0)):=heap_setN h13 14 y14;have h15:((((((((((((((((w.setCell ⟨b,0,none⟩ y0).setCell ⟨b,1,none⟩ y1).setCell ⟨b,2,none⟩ y2).setCell ⟨b,3,none⟩ y3).setCell ⟨b,4,none⟩ y4).setCell ⟨b,5,none⟩ y5).setCell ⟨b,6,none⟩ y6).setCell ⟨b,7,none⟩ y7).setCell ⟨b,8,none⟩ y8).setCell ⟨b,9,none⟩ y9).setCell ⟨b,10,none⟩ y10).setCell ⟨b,11,none⟩ y11).setCell ⟨b,12,none⟩ y12).setCell ⟨b,13,none⟩ y13).setCell ⟨b,14,none⟩ y14).setCell ⟨b,15,none⟩ y15).heap[b]?=some (.cells #[y0,y1,y2,y3,y4,y5,y6,y7,y8,y9,y10,y11,y12,y13,y14,y15,a16] T (0,0)):=heap_setN h14 15 y15;have h16:(((((((((((((((((w.setCell ⟨b,0,none⟩ y0).setCell ⟨b,1,none⟩ y1).setCell ⟨b,2,none⟩ y2).setCell ⟨b,3,none⟩ y3).setCell ⟨b,4,none⟩ y4).setCell ⟨b,5,none⟩ y5).setCell ⟨b,6,none⟩ y6).setCell ⟨b,7,none⟩ y7).setCell ⟨b,8,none⟩ y8).setCell ⟨b,9,none⟩ y9).setCell ⟨b,10,none⟩ y10).setCell ⟨b,11,none⟩ y11).setCell ⟨b,12,none⟩ y12).setCell ⟨b,13,none⟩ y13).setCell ⟨b,14,none⟩ y14).setCell ⟨b,15,none⟩ y15).setCell ⟨b,16,none⟩ y16).heap[b]?=some (.cells #[y0,y1,y2,y3,y4,y5,y6,y7,y8,y9,y10,y11,y12,y13,y14,y15,y16] T (0,0)):=heap_setN h15 16 y16;exact⟨h16,(((((((((((((((((Fr.refl [b] w).setCell ⟨b,0,none⟩ (List.mem_singleton.2 rfl) y0).setCell ⟨b,1,none⟩ (List.mem_singleton.2 rfl) y1).setCell ⟨b,2,none⟩ (List.mem_singleton.2 rfl) y2).setCell ⟨b,3,none⟩ (List.mem_singleton.2 rfl) y3).setCell ⟨b,4,none⟩ (List.mem_singleton.2 rfl) y4).setCell ⟨b,5,none⟩ (List.mem_singleton.2 rfl) y5).setCell ⟨b,6,none⟩ (List.mem_singleton.2 rfl) y6).setCell ⟨b,7,none⟩ (List.mem_singleton.2 rfl) y7).setCell ⟨b,8,none⟩ (List.mem_singleton.2 rfl) y8).setCell ⟨b,9,none⟩ (List.mem_singleton.2 rfl) y9).setCell ⟨b,10,none⟩ (List.mem_singleton.2 rfl) y10).setCell ⟨b,11,none⟩ (List.mem_singleton.2 rfl) y11).setCell ⟨b,12,none⟩ (List.mem_singleton.2 rfl) y12).setCell ⟨b,13,none⟩ (List.mem_singleton.2 rfl) y13).setCell ⟨b,14,none⟩ (List.mem_singleton.2 rfl) y14).setCell ⟨b,15,none⟩ (List.mem_singleton.2 rfl) y15).setCell ⟨b,16,none⟩ (List.mem_singleton.2 rfl) y16⟩
theorem put17_n1 {w:World} {b:Nat} {T:TypeId} {a0 a1 a2 a3 a4 a5 a6 a7 a8 a9 a10 a11 a12 a13 a14 a15 a16:Value} (h:w.heap[b]?=some (.cells #[a0,a1,a2,a3,a4,a5,a6,a7,a8,a9,a10,a11,a12,a13,a14,a15,a16] T (0,0))) (y1:Value) :
  (w.setCell ⟨b,1,none⟩ y1).heap[b]?=some (.cells #[a0,y1,a2,a3,a4,a5,a6,a7,a8,a9,a10,a11,a12,a13,a14,a15,a16] T (0,0))∧Fr [b] w (w.setCell ⟨b,1,none⟩ y1):=by
 have h1:(w.setCell ⟨b,1,none⟩ y1).heap[b]?=some (.cells #[a0,y1,a2,a3,a4,a5,a6,a7,a8,a9,a10,a11,a12,a13,a14,a15,a16] T (0,0)):=heap_setN h 1 y1;exact⟨h1,(Fr.refl [b] w).setCell ⟨b,1,none⟩ (List.mem_singleton.2 rfl) y1⟩
theorem put17_n2 {w:World} {b:Nat} {T:TypeId} {a0 a1 a2 a3 a4 a5 a6 a7 a8 a9 a10 a11 a12 a13 a14 a15 a16:Value} (h:w.heap[b]?=some (.cells #[a0,a1,a2,a3,a4,a5,a6,a7,a8,a9,a10,a11,a12,a13,a14,a15,a16] T (0,0))) (y2:Value) :
  (w.setCell ⟨b,2,none⟩ y2).heap[b]?=some (.cells #[a0,a1,y2,a3,a4,a5,a6,a7,a8,a9,a10,a11,a12,a13,a14,a15,a16] T (0,0))∧Fr [b] w (w.setCell ⟨b,2,none⟩ y2):=by
 have h2:(w.setCell ⟨b,2,none⟩ y2).heap[b]?=some (.cells #[a0,a1,y2,a3,a4,a5,a6,a7,a8,a9,a10,a11,a12,a13,a14,a15,a16] T (0,0)):=heap_setN h 2 y2;exact⟨h2,(Fr.refl [b] w).setCell ⟨b,2,none⟩ (List.mem_singleton.2 rfl) y2⟩
theorem put17_n3 {w:World} {b:Nat} {T:TypeId} {a0 a1 a2 a3 a4 a5 a6 a7 a8 a9 a10 a11 a12 a13 a14 a15 a16:Value} (h:w.heap[b]?=some (.cells #[a0,a1,a2,a3,a4,a5,a6,a7,a8,a9,a10,a11,a12,a13,a14,a15,a16] T (0,0))) (y3:Value) :
  (w.setCell ⟨b,3,none⟩ y3).heap[b]?=some (.cells #[a0,a1,a2,y3,a4,a5,a6,a7,a8,a9,a10,a11,a12,a13,a14,a15,a16] T (0,0))∧Fr [b] w (w.setCell ⟨b,3,none⟩ y3):=by
 have h3:(w.setCell ⟨b,3,none⟩ y3).heap[b]?=some (.cells #[a0,a1,a2,y3,a4,a5,a6,a7,a8,a9,a10,a11,a12,a13,a14,a15,a16] T (0,0)):=heap_setN h 3 y3;exact⟨h3,(Fr.refl [b] w).setCell ⟨b,3,none⟩ (List.mem_singleton.2 rfl) y3⟩
theorem put17_n4 {w:World} {b:Nat} {T:TypeId} {a0 a1 a2 a3 a4 a5 a6 a7 a8 a9 a10 a11 a12 a13 a14 a15 a16:Value} (h:w.heap[b]?=some (.cells #[a0,a1,a2,a3,a4,a5,a6,a7,a8,a9,a10,a11,a12,a13,a14,a15,a16] T (0,0))) (y4:Value) :
  (w.setCell ⟨b,4,none⟩ y4).heap[b]?=some (.cells #[a0,a1,a2,a3,y4,a5,a6,a7,a8,a9,a10,a11,a12,a13,a14,a15,a16] T (0,0))∧Fr [b] w (w.setCell ⟨b,4,none⟩ y4):=by
 have h4:(w.setCell ⟨b,4,none⟩ y4).heap[b]?=some (.cells #[a0,a1,a2,a3,y4,a5,a6,a7,a8,a9,a10,a11,a12,a13,a14,a15,a16] T (0,0)):=heap_setN h 4 y4;exact⟨h4,(Fr.refl [b] w).setCell ⟨b,4,none⟩ (List.mem_singleton.2 rfl) y4⟩
theorem put17_k {w:World} {b:Nat} {T:TypeId} {a0 a1 a2 a3 a4 a5 a6 a7 a8 a9 a10 a11 a12 a13 a14 a15 a16:Value} (h:w.heap[b]?=some (.cells #[a0,a1,a2,a3,a4,a5,a6,a7,a8,a9,a10,a11,a12,a13,a14,a15,a16] T (0,0))) (y5 y6 y7 y8 y9 y10:Value) :
  ((((((w.setCell ⟨b,5,none⟩ y5).setCell ⟨b,6,none⟩ y6).setCell ⟨b,7,none⟩ y7).setCell ⟨b,8,none⟩ y8).setCell ⟨b,9,none⟩ y9).setCell ⟨b,10,none⟩ y10).heap[b]?=some (.cells #[a0,a1,a2,a3,a4,y5,y6,y7,y8,y9,y10,a11,a12,a13,a14,a15,a16] T (0,0))∧Fr [b] w ((((((w.setCell ⟨b,5,none⟩ y5).setCell ⟨b,6,none⟩ y6).setCell ⟨b,7,none⟩ y7).setCell ⟨b,8,none⟩ y8).setCell ⟨b,9,none⟩ y9).setCell ⟨b,10,none⟩ y10):=by
 have h5:(w.setCell ⟨b,5,none⟩ y5).heap[b]?=some (.cells #[a0,a1,a2,a3,a4,y5,a6,a7,a8,a9,a10,a11,a12,a13,a14,a15,a16] T (0,0)):=heap_setN h 5 y5;have h6:((w.setCell ⟨b,5,none⟩ y5).setCell ⟨b,6,none⟩ y6).heap[b]?=some (.cells #[a0,a1,a2,a3,a4,y5,y6,a7,a8,a9,a10,a11,a12,a13,a14,a15,a16] T (0,0)):=heap_setN h5 6 y6;have h7:(((w.setCell ⟨b,5,none⟩ y5).setCell ⟨b,6,none⟩ y6).setCell ⟨b,7,none⟩ y7).heap[b]?=some (.cells #[a0,a1,a2,a3,a4,y5,y6,y7,a8,a9,a10,a11,a12,a13,a14,a15,a16] T (0,0)):=heap_setN h6 7 y7;have h8:((((w.setCell ⟨b,5,none⟩ y5).setCell ⟨b,6,none⟩ y6).setCell ⟨b,7,none⟩ y7).setCell ⟨b,8,none⟩ y8).heap[b]?=some (.cells #[a0,a1,a2,a3,a4,y5,y6,y7,y8,a9,a10,a11,a12,a13,a14,a15,a16] T (0,0)):=heap_setN h7 8 y8;have h9:(((((w.setCell ⟨b,5,none⟩ y5).setCell ⟨b,6,none⟩ y6).setCell ⟨b,7,none⟩ y7).setCell ⟨b,8,none⟩ y8).setCell ⟨b,9,none⟩ y9).heap[b]?=some (.cells #[a0,a1,a2,a3,a4,y5,y6,y7,y8,y9,a10,a11,a12,a13,a14,a15,a16] T (0,0)):=heap_setN h8 9 y9;have h10:((((((w.setCell ⟨b,5,none⟩ y5).setCell ⟨b,6,none⟩ y6).setCell ⟨b,7,none⟩ y7).setCell ⟨b,8,none⟩ y8).setCell ⟨b,9,none⟩ y9).setCell ⟨b,10,none⟩ y10).heap[b]?=some (.cells #[a0,a1,a2,a3,a4,y5,y6,y7,y8,y9,y10,a11,a12,a13,a14,a15,a16] T (0,0)):=heap_setN h9 10 y10;exact⟨h10,((((((Fr.refl [b] w).setCell ⟨b,5,none⟩ (List.mem_singleton.2 rfl) y5).setCell ⟨b,6,none⟩ (List.mem_singleton.2 rfl) y6).setCell ⟨b,7,none⟩ (List.mem_singleton.2 rfl) y7).setCell ⟨b,8,none⟩ (List.mem_singleton.2 rfl) y8).setCell ⟨b,9,none⟩ (List.mem_singleton.2 rfl) y9).setCell ⟨b,10,none⟩ (List.mem_singleton.2 rfl) y10⟩
theorem put17_v {w:World} {b:Nat} {T:TypeId} {a0 a1 a2 a3 a4 a5 a6 a7 a8 a9 a10 a11 a12 a13 a14 a15 a16:Value} (h:w.heap[b]?=some (.cells #[a0,a1,a2,a3,a4,a5,a6,a7,a8,a9,a10,a11,a12,a13,a14,a15,a16] T (0,0))) (y11 y12 y13 y14 y15 y16:Value) :
  ((((((w.setCell ⟨b,11,none⟩ y11).setCell ⟨b,12,none⟩ y12).setCell ⟨b,13,none⟩ y13).setCell ⟨b,14,none⟩ y14).setCell ⟨b,15,none⟩ y15).setCell ⟨b,16,none⟩ y16).heap[b]?=some (.cells #[a0,a1,a2,a3,a4,a5,a6,a7,a8,a9,a10,y11,y12,y13,y14,y15,y16] T (0,0))∧Fr [b] w ((((((w.setCell ⟨b,11,none⟩ y11).setCell ⟨b,12,none⟩ y12).setCell ⟨b,13,none⟩ y13).setCell ⟨b,14,none⟩ y14).setCell ⟨b,15,none⟩ y15).setCell ⟨b,16,none⟩ y16):=by
 have h11:(w.setCell ⟨b,11,none⟩ y11).heap[b]?=some (.cells #[a0,a1,a2,a3,a4,a5,a6,a7,a8,a9,a10,y11,a12,a13,a14,a15,a16] T (0,0)):=heap_setN h 11 y11;have h12:((w.setCell ⟨b,11,none⟩ y11).setCell ⟨b,12,none⟩ y12).heap[b]?=some (.cells #[a0,a1,a2,a3,a4,a5,a6,a7,a8,a9,a10,y11,y12,a13,a14,a15,a16] T (0,0)):=heap_setN h11 12 y12;have h13:(((w.setCell ⟨b,11,none⟩ y11).setCell ⟨b,12,none⟩ y12).setCell ⟨b,13,none⟩ y13).heap[b]?=some (.cells #[a0,a1,a2,a3,a4,a5,a6,a7,a8,a9,a10,y11,y12,y13,a14,a15,a16] T (0,0)):=heap_setN h12 13 y13;have h14:((((w.setCell ⟨b,11,none⟩ y11).setCell ⟨b,12,none⟩ y12).setCell ⟨b,13,none⟩ y13).setCell ⟨b,14,none⟩ y14).heap[b]?=some (.cells #[a0,a1,a2,a3,a4,a5,a6,a7,a8,a9,a10,y11,y12,y13,y14,a15,a16] T (0,0)):=heap_setN h13 14 y14;have h15:(((((w.setCell ⟨b,11,none⟩ y11).setCell ⟨b,12,none⟩ y12).setCell ⟨b,13,none⟩ y13).setCell ⟨b,14,none⟩ y14).setCell ⟨b,15,none⟩ y15).heap[b]?=some (.cells #[a0,a1,a2,a3,a4,a5,a6,a7,a8,a9,a10,y11,y12,y13,y14,y15,a16] T (0,0)):=heap_setN h14 15 y15;have h16:((((((w.setCell ⟨b,11,none⟩ y11).setCell ⟨b,12,none⟩ y12).setCell ⟨b,13,none⟩ y13).setCell ⟨b,14,none⟩ y14).setCell ⟨b,15,none⟩ y15).setCell ⟨b,16,none⟩ y16).heap[b]?=some (.cells #[a0,a1,a2,a3,a4,a5,a6,a7,a8,a9,a10,y11,y12,y13,y14,y15,y16] T (0,0)):=heap_setN h15 16 y16;exact⟨h16,((((((Fr.refl [b] w).setCell ⟨b,11,none⟩ (List.mem_singleton.2 rfl) y11).setCell ⟨b,12,none⟩ (List.mem_singleton.2 rfl) y12).setCell ⟨b,13,none⟩ (List.mem_singleton.2 rfl) y13).setCell ⟨b,14,none⟩ (List.mem_singleton.2 rfl) y14).setCell ⟨b,15,none⟩ (List.mem_singleton.2 rfl) y15).setCell ⟨b,16,none⟩ (List.mem_singleton.2 rfl) y16⟩
end
section
open Go.RowKit
section
variable {P:Program} {ops:Array Oper} {rest:List Oper} {o:Oper} {a:Act} {Q:Exit→Act→World→Prop} {w w':World} {v:Value}
theorem wpList_do (hg:o.guard=none) (hr:(execOp a.eval o).run P w=.ok (.value v) w') (h:wpList P ops Q rest (a.put o.dst v) w'):wpList P ops Q (o::rest) a w :=
 wpList_plain hg fun _ hK=>by
  unfold Oper.wp;rw[hr];exact hK _ _ h
theorem oper_row {K:Act→World→Prop} {t:TypeId} {ad x:Operand} (ho:o.op=.store t ad x) (hd:o.dst=none) {b n:Nat} {T:TypeId} {cs l:Array Value} (ea:a.eval ad=.pointer (some ⟨b,0,none⟩)) (ex:a.eval x=.agg l)
  (ht:Ev.sizeOf P t=some n) (hb:w.heap[b]?=some (.cells cs T (0,0))) (hl:l.size=n) (hc:cs.size=n) (h1:∀ u ∈ l.toList,u.oneCell'=true)
  (h:∀ w',w'.heap[b]?=some (.cells l T (0,0))→Fr [b] w w'→K a w'):o.wp P a w K Q:=by
  have hrun:=run_storeCells_at (P:=P) b 0 T l.toList 0 cs w hb (by simp;omega) h1;simp only[Nat.add_zero]at hrun;have hsz:(a.eval x).cells.size=n:=by rw[ex];exact hl
  have hcl:(a.eval x).cells.toList=l.toList:=by rw[ex];rfl
  unfold Oper.wp;have hr:(execOp a.eval o).run P w=.ok .skip (w.setRow b (cs.toList.take 0++l.toList++cs.toList.drop (0+l.toList.length)).toArray):=by
   unfold execOp;simp only[ho,ea,Instr.storeAt,Instr.sureAddr,Sem.run_bind,Sem.run_pure,Result.andThen_ok,storeVar,Ev.run_sizeOf ht,hsz,hcl,ne_eq,not_true_eq_false,if_false,hrun]
  have e:(cs.toList.take 0++l.toList++cs.toList.drop (0+l.toList.length)).toArray=l:=by
   rw[List.drop_eq_nil_of_le (by simp;omega)];simp
  rw[e]at hr;rw[hr];have hput:a.put o.dst undef=a:=by rw[hd];rfl
  have:=h (w.setRow b l) (setRow_heap w b cs _ T _ hb) ⟨rfl,rfl,rfl,by simp,fun k _ hk=>setRow_other w b k _ (by simpa using hk)⟩;rw[←hput]at this;exact this
theorem wpList_row (hg:o.guard=none) {t:TypeId} {ad x:Operand} (ho:o.op=.store t ad x) (hd:o.dst=none) {b n:Nat} {T:TypeId} {cs l:Array Value} (ea:a.eval ad=.pointer (some ⟨b,0,none⟩)) (ex:a.eval x=.agg l)
  (ht:Ev.sizeOf P t=some n) (hb:w.heap[b]?=some (.cells cs T (0,0))) (hl:l.size=n) (hc:cs.size=n) (h1:∀ u ∈ l.toList,u.oneCell'=true)
  (h:∀ w',w'.heap[b]?=some (.cells l T (0,0))→Fr [b] w w'→wpList P ops Q rest a w'):wpList P ops Q (o::rest) a w :=
 wpList_plain hg fun _ hK=>oper_row ho hd ea ex ht hb hl hc h1 fun w' k1 k2=>hK a w' (h w' k1 k2)
end
end
section
open Go.RowKit
section
variable {P:Program} {ops:Array Oper} {rest:List Oper} {o:Oper} {a:Act} {Q:Exit→Act→World→Prop} {w w':World} {v:Value}
theorem oper_rown {K:Act→World→Prop} {t:TypeId} {ad x:Operand} (ho:o.op=.store t ad x) (hd:o.dst=none) {b n:Nat} {T:TypeId} {cs l:Array Value} (ea:a.eval ad=.pointer (some ⟨b,0,none⟩)) (ex:(a.eval x).cells=l)
  (ht:Ev.sizeOf P t=some n) (hb:w.heap[b]?=some (.cells cs T (0,0))) (hl:l.size=n) (hc:cs.size=n) (h1:∀ u ∈ l.toList,u.oneCell'=true)
  (h:∀ w',w'.heap[b]?=some (.cells l T (0,0))→Fr [b] w w'→K a w'):o.wp P a w K Q:=by
  have hrun:=run_storeCells_at (P:=P) b 0 T l.toList 0 cs w hb (by simp;omega) h1;simp only[Nat.add_zero]at hrun;have hsz:(a.eval x).cells.size=n:=by rw[ex];exact hl
  have hcl:(a.eval x).cells.toList=l.toList:=by rw[ex]
  unfold Oper.wp;have hr:(execOp a.eval o).run P w=.ok .skip (w.setRow b (cs.toList.take 0++l.toList++cs.toList.drop (0+l.toList.length)).toArray):=by
   unfold execOp;simp only[ho,ea,Instr.storeAt,Instr.sureAddr,Sem.run_bind,Sem.run_pure,Result.andThen_ok,storeVar,Ev.run_sizeOf ht,hsz,hcl,ne_eq,not_true_eq_false,if_false,hrun]
  have e:(cs.toList.take 0++l.toList++cs.toList.drop (0+l.toList.length)).toArray=l:=by
   rw[List.drop_eq_nil_of_le (by simp;omega)];simp
  rw[e]at hr;rw[hr];have hput:a.put o.dst undef=a:=by rw[hd];rfl
  have:=h (w.setRow b l) (setRow_heap w b cs _ T _ hb) ⟨rfl,rfl,rfl,by simp,fun k _ hk=>setRow_other w b k _ (by simpa using hk)⟩;rw[←hput]at this;exact this
theorem wpList_rown (hg:o.guard=none) {t:TypeId} {ad x:Operand} (ho:o.op=.store t ad x) (hd:o.dst=none) {b n:Nat} {T:TypeId} {cs l:Array Value} (ea:a.eval ad=.pointer (some ⟨b,0,none⟩)) (ex:(a.eval x).cells=l)
  (ht:Ev.sizeOf P t=some n) (hb:w.heap[b]?=some (.cells cs T (0,0))) (hl:l.size=n) (hc:cs.size=n) (h1:∀ u ∈ l.toList,u.oneCell'=true)
  (h:∀ w',w'.heap[b]?=some (.cells l T (0,0))→Fr [b] w w'→wpList P ops Q rest a w'):wpList P ops Q (o::rest) a w :=
 wpList_plain hg fun _ hK=>oper_rown ho hd ea ex ht hb hl hc h1 fun w' k1 k2=>hK a w' (h w' k1 k2)
end
end
section
open Go.RowKit
theorem rbegin_off (s:ByteArray) (k:Int) (hk:k<0∨(s.size:Int)<k) (w:World) :
  Calls Tryz.prog 25 #[.string s,.int .i64 k] w fun e w'=>e=.returned (.pointer (some ⟨w.heap.size,0,none⟩))∧w'.heap[w.heap.size]?=some (.cells #[.string s,.int .i64 k,.int .i64 3,.int .i64 0] 77 (0,0))∧Below w.heap.size w w':=by
 have hO:=heap_alloc_new w (.cells #[.string s,.int .i64 k,.int .i64 3,.int .i64 0] 77);have hB:Below w.heap.size w (w.alloc (.cells #[.string s,.int .i64 k,.int .i64 3,.int .i64 0] 77)):=(Below.refl _ _).alloc (Nat.le_refl _) _;by_cases hn:k<0
 ·have t1:decide (k<0)=true:=by simpa using hn
  clear hk;go_in;go_wp2_with fail
  go_ret;exact⟨rfl,hO,hB⟩
 ·have t1:decide (k<0)=false:=by simpa using hn
  have t2:decide ((s.size:Int)<k)=true:=by simp;omega
  clear hk;go_in;go_wp2_with fail
  go_ret;exact⟨rfl,hO,hB⟩
theorem riok_off (s:ByteArray) (k:Int) (b:Nat) (w:World) (hg:w.heap[b]?=some (.cells #[.string s,.int .i64 k,.int .i64 3,.int .i64 0] 77 (0,0))) :
  Calls Tryz.prog 26 #[.agg #[.pointer (some ⟨b,0,none⟩)]] w fun e w'=>e=.returned (.bool false)∧Below w.heap.size w w':=by
 have hB:Below w.heap.size w (w.alloc (.cells #[.pointer (some ⟨b,0,none⟩)] 75)):=(Below.refl _ _).alloc (Nat.le_refl _) _;have hgB:=heap_alloc_new w (.cells #[.pointer (some ⟨b,0,none⟩)] 75);have hg:=(hB.block _ (lt_of_block hg)).trans hg;have t0:((3:Int)==0)=false:=rfl;go_in;go_upto_region 1 with (fail)
 generalize w.alloc (.cells #[.pointer (some ⟨b,0,none⟩)] 75)=W1 at *;have c2:W1.cell? ⟨b,2,none⟩=some (.int .i64 3):=by rw[zc hg];rfl
 have x0:W1.cell? ⟨w.heap.size,0,none⟩=some (.pointer (some ⟨b,0,none⟩)):=by rw[zc hgB];rfl
 clear hg hgB;go_wp2_with fail
 go_ret;exact⟨rfl,hB⟩
theorem rReadCmd_off (s:ByteArray) (k:Int) (hk:k<0∨(s.size:Int)<k) (w:World):Calls Tryz.prog 10 #[.string s,.int .i64 k] w (Gives (.tuple #[.agg #[.int .i64 0,.int .i64 0,.int .i64 0,.int .i64 0,.int .i64 0,.int .i64 0,.int .i64 0,.float .f64 0,.string ⟨#[]⟩,.slice none 0 0,.slice none 0 0,.int .i64 0,.int .i64 0,.float .f64 0,.string ⟨#[]⟩,.slice none 0 0,.slice none 0 0],.int .i64 0,.int .i64 3]) w):=by
 have hz1:(w.alloc (.cells #[.int .i64 0,.int .i64 0,.int .i64 0,.int .i64 0,.int .i64 0,.int .i64 0,.int .i64 0,.float .f64 0,.string ⟨#[]⟩,.slice none 0 0,.slice none 0 0,.int .i64 0,.int .i64 0,.float .f64 0,.string ⟨#[]⟩,.slice none 0 0,.slice none 0 0] 30)).heap.size=w.heap.size+1:=by simp
 have h0:=heap_alloc_new w (.cells #[.int .i64 0,.int .i64 0,.int .i64 0,.int .i64 0,.int .i64 0,.int .i64 0,.int .i64 0,.float .f64 0,.string ⟨#[]⟩,.slice none 0 0,.slice none 0 0,.int .i64 0,.int .i64 0,.float .f64 0,.string ⟨#[]⟩,.slice none 0 0,.slice none 0 0] 30);have f0:=(Below.refl w.heap.size w).alloc (Nat.le_refl _) (.cells #[.int .i64 0,.int .i64 0,.int .i64 0,.int .i64 0,.int .i64 0,.int .i64 0,.int .i64 0,.float .f64 0,.string ⟨#[]⟩,.slice none 0 0,.slice none 0 0,.int .i64 0,.int .i64 0,.float .f64 0,.string ⟨#[]⟩,.slice none 0 0,.slice none 0 0] 30);have HBg:=zh (rbegin_off s k hk (w.alloc (.cells #[.int .i64 0,.int .i64 0,.int .i64 0,.int .i64 0,.int .i64 0,.int .i64 0,.int .i64 0,.float .f64 0,.string ⟨#[]⟩,.slice none 0 0,.slice none 0 0,.int .i64 0,.int .i64 0,.float .f64 0,.string ⟨#[]⟩,.slice none 0 0,.slice none 0 0] 30)));generalize hW1:w.alloc (.cells #[.int .i64 0,.int .i64 0,.int .i64 0,.int .i64 0,.int .i64 0,.int .i64 0,.int .i64 0,.float .f64 0,.string ⟨#[]⟩,.slice none 0 0,.slice none 0 0,.int .i64 0,.int .i64 0,.float .f64 0,.string ⟨#[]⟩,.slice none 0 0,.slice none 0 0] 30)=W1 at *;have HW1:=zh hW1;clear hW1;go_in;go_wp2_with fail
 rw[HW1.out];refine(HBg.out).mono ?_;rintro e wB ⟨rfl,R0,hbB⟩;rw[hz1]at R0;have gC:=(hbB.block _ (lt_of_block h0)).trans h0;have f1:=below_tr' f0 hbB;go_upto_region 2 with (fail)
 try rw[hz1]
 have gI:=heap_alloc_new wB (.cells #[.pointer (some ⟨w.heap.size+1,0,none⟩)] 75);have fI:=(Below.refl wB.heap.size wB).alloc (Nat.le_refl _) (.cells #[.pointer (some ⟨w.heap.size+1,0,none⟩)] 75);generalize wB.alloc (.cells #[.pointer (some ⟨w.heap.size+1,0,none⟩)] 75)=V0 at *;have gC:=(fI.block _ (lt_of_block gC)).trans gC;have R0:=(fI.block _ (lt_of_block R0)).trans R0;have f2:=below_tr' f1 fI;generalize hI:wB.heap.size=I at *;have i0:V0.cell? ⟨I,0,none⟩=some (.pointer (some ⟨w.heap.size+1,0,none⟩)):=by rw[zc gI];rfl
 have HO:=zh (riok_off s k (w.heap.size+1) V0 R0);clear f0 f1 fI hbB h0 R0 HBg;go_wp2_with fail
 refine(HO.out).mono ?_;rintro e w1 ⟨rfl,hf1⟩;have gC:=(hf1.block _ (lt_of_block gC)).trans gC;have f3:=below_tr' f2 hf1;clear HO i0 gI f2 hf1;go_upto_region 3 with (fail)
 go_cut [5,6] (fun a b wx=>a=.int .i64 0∧b=.int .i64 3∧wx.heap[w.heap.size]?=some (.cells #[.int .i64 0,.int .i64 0,.int .i64 0,.int .i64 0,.int .i64 0,.int .i64 0,.int .i64 0,.float .f64 0,.string ⟨#[]⟩,.slice none 0 0,.slice none 0 0,.int .i64 0,.int .i64 0,.float .f64 0,.string ⟨#[]⟩,.slice none 0 0,.slice none 0 0] 30 (0,0))∧Below w.heap.size w wx)
 case first =>
  refine wp_region_list ?_;refine wpList_do rfl (v:=.agg #[.int .i64 0,.int .i64 0,.int .i64 0,.int .i64 0,.int .i64 0,.int .i64 0,.int .i64 0,.float .f64 0,.string ⟨#[]⟩,.slice none 0 0,.slice none 0 0,.int .i64 0,.int .i64 0,.float .f64 0,.string ⟨#[]⟩,.slice none 0 0,.slice none 0 0]) (w':=w1) (by kernel_rfl) ?_;refine wpList_row rfl rfl rfl rfl rfl (n:=17) (by kernel_rfl) gC rfl rfl (List.all_eq_true.1 (by kernel_rfl)) ?_;intro w' hgF FF;refine wpList_do rfl (v:=.int .i64 0) (w':=w') rfl ?_;refine wpList_do rfl (v:=.int .i64 3) (w':=w') rfl ?_;simp only[wpList,Act.put,List.setIfInBounds_toArray,List.set_cons_zero,List.set_cons_succ];have hfin:=f3.trans ((FF.below (Nat.le_of_lt (lt_of_block gC)) (by simp)));go_wp2_with fail
  go_meet;exact⟨rfl,rfl,hgF,hfin⟩
 case rest =>
  obtain⟨rfl,rfl,hgF,hfin⟩:=hcut;clear gC f3;obtain⟨yy0,yy1,yy2,yy3,yy4,yy5,yy6,yy7,yy8,yy9,yy10,yy11,yy12,yy13,yy14,yy15,yy16⟩:=cells17 hgF;go_wp2_with fail
  refine bodyPost_ret (v:=.tuple #[.agg #[.int .i64 0,.int .i64 0,.int .i64 0,.int .i64 0,.int .i64 0,.int .i64 0,.int .i64 0,.float .f64 0,.string ⟨#[]⟩,.slice none 0 0,.slice none 0 0,.int .i64 0,.int .i64 0,.float .f64 0,.string ⟨#[]⟩,.slice none 0 0,.slice none 0 0],.int .i64 0,.int .i64 3]) (by simp[results,Tryz.results10,go_sem,yy0,yy1,yy2,yy3,yy4,yy5,yy6,yy7,yy8,yy9,yy10,yy11,yy12,yy13,yy14,yy15,yy16]) rfl ?_;exact⟨rfl,hfin⟩
end
section
open Go.RowKit
theorem cstr_any (s:List UInt8) (hs:s.length≤1000000) (B b:Nat) (o:List UInt8) (ho:o.length≤9000000) (w:World) (hb:Bld 129 B b o w) :
  Calls Tryz.prog 94 #[.pointer (some ⟨b,0,none⟩),.string ⟨s.toArray⟩] w fun e w'=>e=.returned (.tuple #[])∧Bld 129 B b (o++strE s) w'∧Wrote B b w w':=by
 have hl:=uintS_len s.length;have HU:=zh (cuint_any s.length (by omega) B b o (by omega) w hb);have HS:=zh (fun w' (hb':Bld 129 B b (o++uintS s.length) w')=>hb'.writeS bt_codec s (by simp;omega));have hsz:(⟨s.toArray⟩:ByteArray).size=s.length:=by show s.toArray.size=_;simp
 have hE:strE s=uintS s.length++s:=rfl;have HE:=zh hE;clear hE;have hw:IntKind.u64.wrap (s.length:Int)=(s.length:Int):=by rw[IntKind.wrap_u64];omega
 go_in;go_wp2_with fail
 refine(HU.out).mono ?_;rintro e w1 ⟨rfl,hb1,hw1⟩;go_wp2_with fail
 refine(HS.out _ hb1).mono ?_;rintro e w2 ⟨rfl,hb2,hw2⟩;go_wp2_with fail
 go_end0;exact⟨rfl,by rw[HE.out,←List.append_assoc];exact hb2,hw1.trans hw2⟩
theorem xor_zero64 (x:Nat) (h:x<18446744073709551616):bits .xor .u64 (x:Int) 0=(x:Int):=by
 have h1:(BitVec.ofInt 64 (x:Int)).toNat=x:=by
  rw[BitVec.ofInt_natCast,BitVec.toNat_ofNat];exact Nat.mod_eq_of_lt (by omega)
 show IntKind.u64.wrap ((BitVec.ofInt 64 (x:Int) ^^^ BitVec.ofInt 64 0).toNat:Int)=_;rw[show BitVec.ofInt 64 0=0#64 from by decide,BitVec.xor_zero,h1,IntKind.wrap_u64];omega
theorem xor_ones64 (x:Nat) (h:x<18446744073709551616):bits .xor .u64 (x:Int) 18446744073709551615=((18446744073709551615 - x:Nat):Int):=by
 have h1:(BitVec.ofInt 64 (x:Int)).toNat=x:=by
  rw[BitVec.ofInt_natCast,BitVec.toNat_ofNat];exact Nat.mod_eq_of_lt (by omega)
 show IntKind.u64.wrap ((BitVec.ofInt 64 (x:Int) ^^^ BitVec.ofInt 64 18446744073709551615).toNat:Int)=_;rw[show BitVec.ofInt 64 18446744073709551615=BitVec.allOnes 64 from by decide,BitVec.xor_allOnes,BitVec.toNat_not,h1,IntKind.wrap_u64];omega
theorem zig_bits {n:Int} (hn : -9223372036854775808≤n∧n≤9223372036854775807) :
  bits .xor .u64 (IntKind.u64.wrap (IntKind.u64.wrap n*2)) (IntKind.u64.wrap (n / 9223372036854775808))=(zig n:Int):=by
 unfold zig;by_cases h:n<0
 ·rw[if_pos h];have e1:IntKind.u64.wrap (IntKind.u64.wrap n*2)=((2*n+18446744073709551616).toNat:Int):=by rw[IntKind.wrap_u64,IntKind.wrap_u64];omega
  have e2:IntKind.u64.wrap (n / 9223372036854775808)=18446744073709551615:=by rw[IntKind.wrap_u64];omega
  rw[e1,e2,xor_ones64 _ (by omega)];omega
 ·rw[if_neg h];have e1:IntKind.u64.wrap (IntKind.u64.wrap n*2)=((2*n).toNat:Int):=by rw[IntKind.wrap_u64,IntKind.wrap_u64];omega
  have e2:IntKind.u64.wrap (n / 9223372036854775808)=0:=by rw[IntKind.wrap_u64];omega
  rw[e1,e2,xor_zero64 _ (by omega)];omega
theorem cint_any (n:Int) (hn : -9223372036854775808≤n∧n≤9223372036854775807) (B b:Nat) (o:List UInt8) (ho:o.length≤9000000) (w:World) (hb:Bld 129 B b o w) :
  Calls Tryz.prog 99 #[.pointer (some ⟨b,0,none⟩),.int .i64 n] w fun e w'=>e=.returned (.tuple #[])∧Bld 129 B b (o++uintS (zig n)) w'∧Wrote B b w w':=by
 have HU:=zh (cuint_any (zig n) (zig_lt hn) B b o (by omega) w hb);have HZ:=zh (zig_bits hn);go_in;go_wp2_with fail
 rw[HZ.out];refine(HU.out).mono ?_;rintro e w1 ⟨rfl,hb1,hw1⟩;go_wp2_with fail
 go_end0;exact⟨rfl,hb1,hw1⟩
end
section
open Go
theorem enc1 {v:VT} (h:v.kind=1):encV v=[1,UInt8.ofNat v.num.toNat]:=by
 cases v with
 | mk k n f s ns its =>
  have h:k=1:=h;subst h;rw[encV];rfl
theorem enc2 {v:VT} (h:v.kind=2):encV v=2::uintS (zig v.num):=by
 cases v with
 | mk k n f s ns its =>
  have h:k=2:=h;subst h;rw[encV];rfl
theorem enc3 {v:VT} (h:v.kind=3):encV v=3::fltE (canon v.flt):=by
 cases v with
 | mk k n f s ns its =>
  have h:k=3:=h;subst h;rw[encV];rfl
theorem enc4 {v:VT} (h:v.kind=4):encV v=4::strE v.str:=by
 cases v with
 | mk k n f s ns its =>
  have h:k=4:=h;subst h;rw[encV];rfl
theorem enc5 {v:VT} (h:v.kind=5):encV v=5::(uintS v.items.length++encL false v.names v.items):=by
 cases v with
 | mk k n f s ns its =>
  have h:k=5:=h;subst h;rw[encV];rfl
theorem enc6 {v:VT} (h:v.kind=6):encV v=6::(uintS v.items.length++encL true v.names v.items):=by
 cases v with
 | mk k n f s ns its =>
  have h:k=6:=h;subst h;rw[encV];rfl
theorem encL_drop5 {its:List VT} {ns:List (List UInt8)} {i:Nat} (hi:i<its.length):encL false (ns.drop i) (its.drop i)=encV (its.getD i noVT)++encL false (ns.drop (i+1)) (its.drop (i+1)):=by
 have e:its.getD i noVT=its[i]:=by simp[List.getD,hi]
 rw[List.drop_eq_getElem_cons hi,encL,e];simp
theorem encL_drop6 {its:List VT} {ns:List (List UInt8)} {i:Nat} (hi:i<its.length) (hn:i<ns.length):encL true (ns.drop i) (its.drop i)=strE (ns.getD i [])++(encV (its.getD i noVT)++encL true (ns.drop (i+1)) (its.drop (i+1))):=by
 have e:its.getD i noVT=its[i]:=by simp[List.getD,hi]
 have e2:ns.getD i []=ns[i]:=by simp[List.getD,hn]
 rw[List.drop_eq_getElem_cons hi,encL,e,e2,List.drop_eq_getElem_cons hn];rfl
theorem encL_end {named:Bool} {its:List VT} {ns:List (List UInt8)} {i:Nat} (hi:its.length≤i):encL named ns (its.drop i)=[]:=by
 rw[List.drop_eq_nil_of_le hi,encL]
theorem strE_len (s:List UInt8):(strE s).length≤10+s.length:=by
 unfold strE;have:=uintS_len s.length;rw[List.length_append];omega
theorem encL_len (named:Bool):∀ (its:List VT) (ns:List (List UInt8)),(∀ s ∈ ns,s.length≤30)→(∀ v ∈ its,(encV v).length+40≤300*psz v)→(encL named ns its).length≤300*pszL its
 | [],_,_,_=>by rw[encL];simp
 | x::xs,ns,hn,h=>by
  have hx:=h x (List.mem_cons_self ..);have ih:=encL_len named xs ns.tail (fun s hs=>hn s (List.mem_of_mem_tail hs)) (fun v hv=>h v (List.mem_cons_of_mem _ hv));have hp:1≤psz x:=by cases x;rw[psz];omega
  have hh:(if named then strE (ns.headD []) else []).length≤40:=by
   split
   ·have:=strE_len (ns.headD []);cases ns with
    | nil=>simp[strE]at this ⊢;omega
    | cons a l=>have h2:=hn a (List.mem_cons_self ..);simp only[List.headD_cons]at this ⊢;omega
   ·simp
  rw[encL,pszL,List.length_append,List.length_append];omega
theorem fltE_length (b:Nat):(fltE b).length=8:=rfl
theorem encV_len:∀ (far:Nat) (v:VT),rightV v far=true→(encV v).length+40≤300*psz v
 | 0,v,h=>by rw[right0]at h;cases h
 | far+1,v,h=>by
  have hp:1≤psz v∧psz v=pszL v.items+1:=by cases v;rw[psz];exact⟨by omega,rfl⟩
  have hk:=right_kind h;rcases hk with hk|hk|hk|hk|hk|hk
  ·rw[enc1 hk];simp;omega
  ·rw[enc2 hk];have:=uintS_len (zig v.num);simp;omega
  ·rw[enc3 hk];have:=fltE_length (canon v.flt);simp;omega
  ·rw[enc4 hk];rw[right4 hk,Bool.and_eq_true,decide_eq_true_eq]at h;have:=strE_len v.str;simp;omega
  ·rw[enc5 hk];rw[right5 hk,Bool.and_eq_true,Bool.and_eq_true,decide_eq_true_eq]at h;have h1:=encL_len false v.items v.names (fun s hs=>by rw[List.length_eq_zero_iff.1 h.2.1]at hs;cases hs) (fun x hx=>encV_len far x (rightL_mem h.2.2 x hx))
   have:=uintS_len v.items.length;simp;omega
  ·rw[enc6 hk];rw[right6 hk,Bool.and_eq_true,Bool.and_eq_true,Bool.and_eq_true,decide_eq_true_eq]at h;have h1:=encL_len true v.items v.names (rises_len h.2.1) (fun x hx=>encV_len far x (rightL_mem h.2.2.2 x hx));have:=uintS_len v.items.length;simp;omega
theorem rightB_len {v:VT} (h:rightB v=true):(encV v).length≤60000:=by
 obtain⟨h1,h2⟩:=(rightB_iff v).1 h;have:=encV_len 12 v h2;omega
end
section
open Go.RowKit
theorem cvalue_leaf (d:Nat) (v:VT) (g o far B b:Nat) (q:List UInt8) (W0 w:World) (h:PtrTo W0 d v g o) (hW0:W0.heap.size=B) (hB0:Below B W0 w) (hbd:Bld 129 B b q w) (hr:rightV v far=true) (hk:v.kind≠3∧v.kind≠5∧v.kind≠6) (hlen:q.length+(encV v).length≤8000000) :
  Calls Tryz.prog 65 #[.pointer (some ⟨b,0,none⟩),.pointer (some ⟨g,o,none⟩)] w fun e w'=>e=.returned (.tuple #[])∧Bld 129 B b (q++encV v) w'∧Wrote B b w w':=by
 obtain⟨d,rfl⟩:∃ e,d=e+1:=by
  cases d with
  | zero=>obtain⟨_,_,h,_⟩:=h;exact h.elim
  | succ e=>exact⟨e,rfl⟩
 obtain⟨far,rfl⟩:∃ e,far=e+1:=by
  cases far with
  | zero=>rw[right0]at hr;cases hr
  | succ e=>exact⟨e,rfl⟩
 have hnum : -9223372036854775808≤v.num∧v.num≤9223372036854775807:=by
  obtain⟨_,cs,⟨_,_,_,_,h3,_⟩,_⟩:=h;exact h3
 have hkk:=right_kind hr;have hq:q.length≤8000000:=by omega
 rcases hkk with k1|k1|k1|k1|k1|k1
 ·-- bool
  obtain⟨pn,p,cap,hg,x0,x1,x2,x3,x4,x5,h4,h5,h6,h7,h9⟩:=h.open
  rw[k1]at x0;rw[hW0]at hg;have HKc:=zh (fun w' (hb:Below B W0 w')=>(show w'.cell? ⟨g,o,none⟩=some (.int .i64 1)∧w'.cell? ⟨g,o+1,none⟩=some (.int .i64 v.num) from⟨(hb.cell (p:=⟨g,o,none⟩) hg).trans x0,(hb.cell (p:=⟨g,o+1,none⟩) hg).trans x1⟩));rw[right1 k1,Bool.and_eq_true,decide_eq_true_eq]at hr;have HE:=zh (enc1 k1);have hn01:=hr.2;have hwr:IntKind.u8.wrap v.num=((UInt8.ofNat v.num.toNat).toNat:Int):=by rcases hn01 with h|h<;>rw[h]<;>rfl
  have hwz:v.num % 256=((UInt8.ofNat v.num.toNat).toNat:Int):=by rcases hn01 with h|h<;>rw[h]<;>rfl
  have HWR:=zh hwr;have HWZ:=zh hwz;clear hr hn01 h9 h6 h5 h4 h7 h x0 x1 x2 x3 x4 x5 k1 hk hwr hwz;generalize v.num=n at *;have HW1:=zh (fun w' (h':Bld 129 B b q w')=>(show Calls Tryz.prog 49 #[.pointer (some ⟨b,0,none⟩),.int .u8 1] w' fun e w''=>e=.returned .nilIface∧Bld 129 B b (q++[1]) w''∧Wrote B b w' w'' from h'.write bt_codec (by omega) 1));have HW2:=zh (fun w' (h':Bld 129 B b (q++[1]) w')=>h'.write bt_codec (by simp;omega) (UInt8.ofNat n.toNat));have wk:IntKind.u8.wrap 1=1:=by decide
  go_in;go_wp2_with fail
  go_region_held3 (fun w'=>w'.cell? ⟨g,o,none⟩=some (.int .i64 1)∧w'.cell? ⟨g,o+1,none⟩=some (.int .i64 n)) (first|exact HKc.out _ hB0.drew|go_keep|exact HKc.out _ (hB0.drew.trans hw1.1)) ((go_at_call 49;(with_reducible refine(HW1.out _ hbd.drew).mono ?_);rintro e w1 ⟨rfl,hb1,hw1⟩))
  clear wk;have hB1:=hB0.drew.trans hw1.1;have hW1:Wrote B b w w1:=(Wrote.refl B b w).drew.trans hw1;have y0:=(HKc.out _ hB1).1;have y1:=(HKc.out _ hB1).2;go_wp2_with fail
  go_region_held3 (fun w'=>w'.cell? ⟨g,o,none⟩=some (.int .i64 1)∧w'.cell? ⟨g,o+1,none⟩=some (.int .i64 n)) (first|exact HKc.out _ hB1.drew|go_keep|exact HKc.out _ (hB1.drew.trans hw2.1)) ((go_at_call 49;rw[HWR.out];(with_reducible refine(HW2.out _ hb1.drew).mono ?_);rintro e w2 ⟨rfl,hb2,hw2⟩))
  go_wp2_with fail
  go_end0;exact⟨rfl,by rw[HE.out];simpa using hb2,hW1.drew.trans hw2⟩
 ·-- int
  obtain⟨pn,p,cap,hg,x0,x1,x2,x3,x4,x5,h4,h5,h6,h7,h9⟩:=h.open
  rw[k1]at x0;rw[hW0]at hg;have HKc:=zh (fun w' (hb:Below B W0 w')=>(show w'.cell? ⟨g,o,none⟩=some (.int .i64 2)∧w'.cell? ⟨g,o+1,none⟩=some (.int .i64 v.num) from⟨(hb.cell (p:=⟨g,o,none⟩) hg).trans x0,(hb.cell (p:=⟨g,o+1,none⟩) hg).trans x1⟩));have HE:=zh (enc2 k1);clear hr h9 h6 h5 h4 h7 h x0 x1 x2 x3 x4 x5 k1 hk;generalize v.num=n at *;have HW1:=zh (fun w' (h':Bld 129 B b q w')=>(show Calls Tryz.prog 49 #[.pointer (some ⟨b,0,none⟩),.int .u8 2] w' fun e w''=>e=.returned .nilIface∧Bld 129 B b (q++[2]) w''∧Wrote B b w' w'' from h'.write bt_codec (by omega) 2));have HW2:=zh (fun w' (h':Bld 129 B b (q++[2]) w')=>cint_any n hnum B b (q++[2]) (by simp;omega) w' h');have wk:IntKind.u8.wrap 2=2:=by decide
  go_in;go_wp2_with fail
  go_region_held3 (fun w'=>w'.cell? ⟨g,o,none⟩=some (.int .i64 2)∧w'.cell? ⟨g,o+1,none⟩=some (.int .i64 n)) (first|exact HKc.out _ hB0.drew|go_keep|exact HKc.out _ (hB0.drew.trans hw1.1)) ((go_at_call 49;(with_reducible refine(HW1.out _ hbd.drew).mono ?_);rintro e w1 ⟨rfl,hb1,hw1⟩))
  clear wk;have hB1:=hB0.drew.trans hw1.1;have hW1:Wrote B b w w1:=(Wrote.refl B b w).drew.trans hw1;have y0:=(HKc.out _ hB1).1;have y1:=(HKc.out _ hB1).2;go_wp2_with fail
  refine(HW2.out _ hb1).mono ?_;rintro e w2 ⟨rfl,hb2,hw2⟩;go_wp2_with fail
  go_end0;exact⟨rfl,by rw[HE.out];simpa using hb2,hW1.trans hw2⟩
 ·exact absurd k1 hk.1
 ·-- string
  obtain⟨pn,p,cap,hg,x0,x1,x2,x3,x4,x5,h4,h5,h6,h7,h9⟩:=h.open
  rw[k1]at x0;rw[hW0]at hg;have HKc:=zh (fun w' (hb:Below B W0 w')=>(show w'.cell? ⟨g,o,none⟩=some (.int .i64 4)∧w'.cell? ⟨g,o+1,none⟩=some (.int .i64 v.num) from⟨(hb.cell (p:=⟨g,o,none⟩) hg).trans x0,(hb.cell (p:=⟨g,o+1,none⟩) hg).trans x1⟩));have HK3:=zh (fun w' (hb:Below B W0 w')=>(hb.cell (p:=⟨g,o+3,none⟩) hg).trans x3);rw[right4 k1,Bool.and_eq_true,decide_eq_true_eq]at hr;have HE:=zh (enc4 k1);have hs:=hr.2;clear hr h9 h6 h5 h4 h7 h x0 x1 x2 x3 x4 x5 k1 hk;generalize v.str=s at *;have HW1:=zh (fun w' (h':Bld 129 B b q w')=>(show Calls Tryz.prog 49 #[.pointer (some ⟨b,0,none⟩),.int .u8 4] w' fun e w''=>e=.returned .nilIface∧Bld 129 B b (q++[4]) w''∧Wrote B b w' w'' from h'.write bt_codec (by omega) 4));have HW2:=zh (fun w' (h':Bld 129 B b (q++[4]) w')=>cstr_any s (by omega) B b (q++[4]) (by simp;omega) w' h');have wk:IntKind.u8.wrap 4=4:=by decide
  go_in;go_wp2_with fail
  go_region_held3 (fun w'=>w'.cell? ⟨g,o,none⟩=some (.int .i64 4)∧w'.cell? ⟨g,o+1,none⟩=some (.int .i64 v.num)) (first|exact HKc.out _ hB0.drew|go_keep|exact HKc.out _ (hB0.drew.trans hw1.1)) ((go_at_call 49;(with_reducible refine(HW1.out _ hbd.drew).mono ?_);rintro e w1 ⟨rfl,hb1,hw1⟩))
  clear wk;have hB1:=hB0.drew.trans hw1.1;have hW1:Wrote B b w w1:=(Wrote.refl B b w).drew.trans hw1;have y0:=(HKc.out _ hB1).1;have y3:=HK3.out _ hB1;go_wp2_with fail
  refine(HW2.out _ hb1).mono ?_;rintro e w2 ⟨rfl,hb2,hw2⟩;go_wp2_with fail
  go_end0;exact⟨rfl,by rw[HE.out];simpa using hb2,hW1.trans hw2⟩
 ·exact absurd k1 hk.2.1
 ·exact absurd k1 hk.2.2
end
section
open Go.RowKit
theorem shr8 (c i:Nat):IntKind.u8.wrap ((c:Int) / ((2 ^ i:Nat):Int))=((UInt8.ofNat (c / 2 ^ i % 256)).toNat:Int):=by
 have e:(c:Int) / ((2 ^ i:Nat):Int)=((c / 2 ^ i:Nat):Int):=by omega
 rw[e,IntKind.wrap_u8];simp[UInt8.toNat_ofNat']
theorem cvalue_float (d:Nat) (v:VT) (g o B b:Nat) (q:List UInt8) (W0 w:World) (h:PtrTo W0 d v g o) (hW0:W0.heap.size=B) (hB0:Below B W0 w) (hbd:Bld 129 B b q w) (k1:v.kind=3) (hq:q.length≤8000000) :
  Calls Tryz.prog 65 #[.pointer (some ⟨b,0,none⟩),.pointer (some ⟨g,o,none⟩)] w fun e w'=>e=.returned (.tuple #[])∧Bld 129 B b (q++encV v) w'∧Wrote B b w w':=by
 obtain⟨d,rfl⟩:∃ e,d=e+1:=by
  cases d with
  | zero=>obtain⟨_,_,h,_⟩:=h;exact h.elim
  | succ e=>exact⟨e,rfl⟩
 obtain⟨pn,p,cap,hg,x0,x1,x2,x3,x4,x5,h4,h5,h6,h7,h9⟩:=h.open
 rw[k1]at x0;rw[hW0]at hg;have HKc:=zh (fun w' (hb:Below B W0 w')=>(show w'.cell? ⟨g,o,none⟩=some (.int .i64 3)∧w'.cell? ⟨g,o+2,none⟩=some (.float .f64 v.flt) from⟨(hb.cell (p:=⟨g,o,none⟩) hg).trans x0,(hb.cell (p:=⟨g,o+2,none⟩) hg).trans x2⟩));have HE:=zh (enc3 k1);have HCa:=zh (fun w=>canon_any v.flt w);have hcf:=(canon_F64 h4).out;have hbr:=fun n w=>bits_run n w
 have HW:=zh (fun(r:List UInt8) (hr:r.length≤10) (c:UInt8) w' (h':Bld 129 B b (q++r) w')=>h'.write bt_codec (by simp;omega) c);have HW1:=zh (fun w' (h':Bld 129 B b q w')=>(show Calls Tryz.prog 49 #[.pointer (some ⟨b,0,none⟩),.int .u8 3] w' fun e w''=>e=.returned .nilIface∧Bld 129 B b (q++[3]) w''∧Wrote B b w' w'' from h'.write bt_codec (by omega) 3));clear h9 h6 h5 h4 h7 h x0 x1 x2 x3 x4 x5 k1;generalize v.flt=F at *;generalize canon F=n at *;have wk:IntKind.u8.wrap 3=3:=by decide
 go_in;go_wp2_with fail
 go_region_held3 (fun w'=>w'.cell? ⟨g,o,none⟩=some (.int .i64 3)∧w'.cell? ⟨g,o+2,none⟩=some (.float .f64 F)) (first|exact HKc.out _ hB0.drew|go_keep|exact HKc.out _ (hB0.drew.trans hw1.1)) ((go_at_call 49;(with_reducible refine(HW1.out _ hbd.drew).mono ?_);rintro e w1 ⟨rfl,hb1,hw1⟩))
 clear wk;have hB1:=hB0.drew.trans hw1.1;have hW1:Wrote B b w w1:=(Wrote.refl B b w).drew.trans hw1;have y0:=(HKc.out _ hB1).1;have y2:=(HKc.out _ hB1).2;go_wp2_with fail
 refine(HCa.out _).mono ?_;rintro e w' ⟨rfl,rfl⟩;clear hB1;go_wp2_with fail
 clear y0 y2;refine wp_loop_rounds 9 ?_;rw[rounds_succ];have e0:IntKind.u8.wrap ((n:Int) / 72057594037927936)=((UInt8.ofNat (n / 2 ^ 56 % 256)).toNat:Int):=shr8 n 56;have E0:=zh e0;clear e0;go_wp2_with fail
 go_region_held3 (fun _=>True) (trivial) ((go_at_call 49;rw[E0.out];(with_reducible refine(HW.out ([3]) (by simp) _ _ hb1.drew).mono ?_);rintro e v0 ⟨rfl,s0,t0⟩))
 rw[List.append_assoc]at s0;have u0:=hW1.drew.trans t0;clear hb1 hW1 t0 E0;go_wp2_with fail
 rw[rounds_succ];have e1:IntKind.u8.wrap ((n:Int) / 281474976710656)=((UInt8.ofNat (n / 2 ^ 48 % 256)).toNat:Int):=shr8 n 48;have E1:=zh e1;clear e1;go_wp2_with fail
 go_region_held3 (fun _=>True) (trivial) ((go_at_call 49;rw[E1.out];(with_reducible refine(HW.out ([3]++[UInt8.ofNat (n / 2 ^ 56 % 256)]) (by simp) _ _ s0.drew).mono ?_);rintro e v1 ⟨rfl,s1,t1⟩))
 rw[List.append_assoc]at s1;have u1:=u0.drew.trans t1;clear s0 u0 t1 E1;go_wp2_with fail
 rw[rounds_succ];have e2:IntKind.u8.wrap ((n:Int) / 1099511627776)=((UInt8.ofNat (n / 2 ^ 40 % 256)).toNat:Int):=shr8 n 40;have E2:=zh e2;clear e2;go_wp2_with fail
 go_region_held3 (fun _=>True) (trivial) ((go_at_call 49;rw[E2.out];(with_reducible refine(HW.out ([3]++[UInt8.ofNat (n / 2 ^ 56 % 256)]++[UInt8.ofNat (n / 2 ^ 48 % 256)]) (by simp) _ _ s1.drew).mono ?_);rintro e v2 ⟨rfl,s2,t2⟩))
 rw[List.append_assoc]at s2;have u2:=u1.drew.trans t2;clear s1 u1 t2 E2;go_wp2_with fail
 rw[rounds_succ];have e3:IntKind.u8.wrap ((n:Int) / 4294967296)=((UInt8.ofNat (n / 2 ^ 32 % 256)).toNat:Int):=shr8 n 32;have E3:=zh e3;clear e3;go_wp2_with fail
 go_region_held3 (fun _=>True) (trivial) ((go_at_call 49;rw[E3.out];(with_reducible refine(HW.out ([3]++[UInt8.ofNat (n / 2 ^ 56 % 256)]++[UInt8.ofNat (n / 2 ^ 48 % 256)]++[UInt8.ofNat (n / 2 ^ 40 % 256)]) (by simp) _ _ s2.drew).mono ?_);rintro e v3 ⟨rfl,s3,t3⟩))
 rw[List.append_assoc]at s3;have u3:=u2.drew.trans t3;clear s2 u2 t3 E3;go_wp2_with fail
 rw[rounds_succ];have e4:IntKind.u8.wrap ((n:Int) / 16777216)=((UInt8.ofNat (n / 2 ^ 24 % 256)).toNat:Int):=shr8 n 24;have E4:=zh e4;clear e4;go_wp2_with fail
 go_region_held3 (fun _=>True) (trivial) ((go_at_call 49;rw[E4.out];(with_reducible refine(HW.out ([3]++[UInt8.ofNat (n / 2 ^ 56 % 256)]++[UInt8.ofNat (n / 2 ^ 48 % 256)]++[UInt8.ofNat (n / 2 ^ 40 % 256)]++[UInt8.ofNat (n / 2 ^ 32 % 256)]) (by simp) _ _ s3.drew).mono ?_);rintro e v4 ⟨rfl,s4,t4⟩))
 rw[List.append_assoc]at s4;have u4:=u3.drew.trans t4;clear s3 u3 t4 E4;go_wp2_with fail
 rw[rounds_succ];have e5:IntKind.u8.wrap ((n:Int) / 65536)=((UInt8.ofNat (n / 2 ^ 16 % 256)).toNat:Int):=shr8 n 16;have E5:=zh e5;clear e5;go_wp2_with fail
 go_region_held3 (fun _=>True) (trivial) ((go_at_call 49;rw[E5.out];(with_reducible refine(HW.out ([3]++[UInt8.ofNat (n / 2 ^ 56 % 256)]++[UInt8.ofNat (n / 2 ^ 48 % 256)]++[UInt8.ofNat (n / 2 ^ 40 % 256)]++[UInt8.ofNat (n / 2 ^ 32 % 256)]++[UInt8.ofNat (n / 2 ^ 24 % 256)]) (by simp) _ _ s4.drew).mono ?_);rintro e v5 ⟨rfl,s5,t5⟩))
 rw[List.append_assoc]at s5;have u5:=u4.drew.trans t5;clear s4 u4 t5 E5;go_wp2_with fail
 rw[rounds_succ];have e6:IntKind.u8.wrap ((n:Int) / 256)=((UInt8.ofNat (n / 2 ^ 8 % 256)).toNat:Int):=shr8 n 8;have E6:=zh e6;clear e6;go_wp2_with fail
 go_region_held3 (fun _=>True) (trivial) ((go_at_call 49;rw[E6.out];(with_reducible refine(HW.out ([3]++[UInt8.ofNat (n / 2 ^ 56 % 256)]++[UInt8.ofNat (n / 2 ^ 48 % 256)]++[UInt8.ofNat (n / 2 ^ 40 % 256)]++[UInt8.ofNat (n / 2 ^ 32 % 256)]++[UInt8.ofNat (n / 2 ^ 24 % 256)]++[UInt8.ofNat (n / 2 ^ 16 % 256)]) (by simp) _ _ s5.drew).mono ?_);rintro e v6 ⟨rfl,s6,t6⟩))
 rw[List.append_assoc]at s6;have u6:=u5.drew.trans t6;clear s5 u5 t6 E6;go_wp2_with fail
 rw[rounds_succ];have e7:IntKind.u8.wrap ((n:Int))=((UInt8.ofNat (n / 2 ^ 0 % 256)).toNat:Int):=by have:=shr8 n 0;simpa using this
 have E7:=zh e7;clear e7;go_wp2_with fail
 go_region_held3 (fun _=>True) (trivial) ((go_at_call 49;rw[E7.out];(with_reducible refine(HW.out ([3]++[UInt8.ofNat (n / 2 ^ 56 % 256)]++[UInt8.ofNat (n / 2 ^ 48 % 256)]++[UInt8.ofNat (n / 2 ^ 40 % 256)]++[UInt8.ofNat (n / 2 ^ 32 % 256)]++[UInt8.ofNat (n / 2 ^ 24 % 256)]++[UInt8.ofNat (n / 2 ^ 16 % 256)]++[UInt8.ofNat (n / 2 ^ 8 % 256)]) (by simp) _ _ s6.drew).mono ?_);rintro e v7 ⟨rfl,s7,t7⟩))
 rw[List.append_assoc]at s7;have u7:=u6.drew.trans t7;clear s6 u6 t7 E7;go_wp2_with fail
 rw[rounds_succ];go_wp2_with fail
 go_end0;exact⟨rfl,by rw[HE.out];exact s7,u7⟩
end
section
open Go.RowKit
theorem cvalue_any:∀ (d:Nat) (v:VT) (g o far:Nat) (W0:World) (B b:Nat) (q:List UInt8) (w:World),PtrTo W0 d v g o→W0.heap.size=B→Below B W0 w→Bld 129 B b q w→rightV v far=true→q.length+(encV v).length≤8000000 →
  Calls Tryz.prog 65 #[.pointer (some ⟨b,0,none⟩),.pointer (some ⟨g,o,none⟩)] w fun e w'=>e=.returned (.tuple #[])∧Bld 129 B b (q++encV v) w'∧Wrote B b w w'
 | 0,_,_,_,_,_,_,_,_,_,h,_,_,_,_,_=>by obtain⟨_,_,h,_⟩:=h;exact h.elim
 | d+1,v,g,o,0,W0,B,b,q,w,h,hW0,hB0,hbd,hr,hlen=>by rw[right0]at hr;cases hr
 | d+1,v,g,o,far+1,W0,B,b,q,w,h,hW0,hB0,hbd,hr,hlen=>by
  have ih:=zh (cvalue_any d);by_cases k3:v.kind=3
  ·exact cvalue_float (d+1) v g o B b q W0 w h hW0 hB0 hbd k3 (by omega)
  by_cases k1:v.kind=5
  ·clear k3;obtain⟨pn,p,cap,hg,x0,x1,x2,x3,x4,x5,h4,h5,h6,h7,h9⟩:=h.open
   rw[k1]at x0;rw[hW0]at hg;have hnm:=h6;obtain⟨pp,pc,rfl⟩:=h6.lenOf;have HKc:=zh (fun w' (hb:Below B W0 w')=>(show w'.cell? ⟨g,o,none⟩=some (.int .i64 5)∧w'.cell? ⟨g,o+4,none⟩=some (.slice pp v.names.length pc)∧w'.cell? ⟨g,o+5,none⟩=some (.slice p v.items.length cap) from⟨(hb.cell (p:=⟨g,o,none⟩) hg).trans x0,(hb.cell (p:=⟨g,o+4,none⟩) hg).trans x4,(hb.cell (p:=⟨g,o+5,none⟩) hg).trans x5⟩));rw[right5 k1,Bool.and_eq_true,Bool.and_eq_true,decide_eq_true_eq]at hr;have hall:=hr.2.2;have HAll:=zh (fun i (hi:i<v.items.length)=>(show rightV (v.items.getD i noVT) far=true from rightL_mem hall _ (by simp[List.getD,hi])));have hpw:=pszL_ge v.items;have hps:psz v=pszL v.items+1:=by cases v;rw[psz];rfl
   have HEq:=enc5 k1;have H9:=zh h9;clear hnm hall hr h9 h6 h5 h4 h x0 x1 x2 x3 x4 x5 k1;generalize v.items=its at *;generalize v.names=ns at *;rw[HEq]at hlen ⊢
   generalize hM:its.length=M at *;generalize hN:ns.length=N at *;have hbd0:=hlen;simp only[List.length_cons,List.length_append]at hbd0;have HM:=zh hM;have HN:=zh hN;clear hM hN HEq;have HW1:=zh (fun w' (h':Bld 129 B b q w')=>(show Calls Tryz.prog 49 #[.pointer (some ⟨b,0,none⟩),.int .u8 5] w' fun e w''=>e=.returned .nilIface∧Bld 129 B b (q++[5]) w''∧Wrote B b w' w'' from h'.write bt_codec (by omega) 5));have HU:=zh (fun w' (h':Bld 129 B b (q++[5]) w')=>cuint_any M (by omega) B b (q++[5]) (by simp;omega) w' h');have hwM:IntKind.u64.wrap (M:Int)=(M:Int):=by rw[IntKind.wrap_u64];omega
   have wk:IntKind.u8.wrap 5=5:=by decide
   have hlr:q.length+((5:UInt8)::(uintS M++encL false ns its)).length≤8000000:=hlen;generalize hRest:(5:UInt8)::(uintS M++encL false ns its)=rest at *;have hstart:rest=([5]++uintS M)++encL false (ns.drop 0) (its.drop 0):=by rw[←hRest];rfl
   have HSt:=zh hstart;clear hRest hstart hlen;go_in;go_wp2_with fail
   go_region_held3 (fun w'=>w'.cell? ⟨g,o,none⟩=some (.int .i64 5)∧w'.cell? ⟨g,o+4,none⟩=some (.slice pp N pc)∧w'.cell? ⟨g,o+5,none⟩=some (.slice p M cap)) (first|exact HKc.out _ hB0.drew|go_keep|exact HKc.out _ (hB0.drew.trans hw1.1)) ((go_at_call 49;(with_reducible refine(HW1.out _ hbd.drew).mono ?_);rintro e w1 ⟨rfl,hb1,hw1⟩))
   clear wk;have hB1:=hB0.drew.trans hw1.1;have hW1:Wrote B b w w1:=(Wrote.refl B b w).drew.trans hw1;obtain⟨y0,y4,y5⟩:=HKc.out _ hB1;go_wp2_with fail
   refine(HU.out _ hb1).mono ?_;rintro e w2 ⟨rfl,hb2,hw2⟩;have hB2:=hB1.trans hw2.1;have hW2:=hW1.trans hw2;rw[List.append_assoc]at hb2;clear y0 y4 y5 hB1 hW1 hb1 hw1 hw2;obtain⟨y0,y4,y5⟩:=HKc.out _ hB2;go_wp2_with fail
   clear y0 y4 y5;go_loopw [33] (fun iv wr=>∃ (i:Nat) (r:List UInt8),i≤M∧iv=.int .i64 i∧Bld 129 B b (q++r) wr∧Wrote B b w wr∧Below B W0 wr∧Hid (rest=r++encL false (ns.drop i) (its.drop i))) (fun iv _=>M - (intOf iv).toNat)
   case atStart=>exact⟨0,_,by omega,rfl,hb2,hW2,hB2,HSt.out⟩
   case round =>
    clear hb2 hW2 hB2;obtain⟨i,r,hi,rfl,hbr,hWr,hBr,hE⟩:=hrel;obtain⟨y0,y4,y5⟩:=HKc.out _ hBr;by_cases hlt:i<M
    ·have t7:decide ((i:Int)<(M:Int))=true:=by simp;omega
     obtain⟨g',o',rfl,hg',hv⟩:=H9.out i hlt;have hri:=HAll.out i hlt;have hD:=encL_drop5 (its:=its) (ns:=ns) (i:=i) (by rw[HM.out];exact hlt);have hE2:=hE.out;rw[hD]at hE2;have hln:=congrArg List.length hE2;simp only[List.length_append]at hln;generalize its.getD i noVT=x at *;have HV:=zh (ih.out x g' (o'+i*6) far W0 B b (q++r) wr hv hW0 hBr hbr hri (by simp;omega));have HE2:=zh hE2;have b1:(0:Int)≤(i:Int):=by omega
     have b2:(i:Int)<(M:Int):=by omega
     clear hD hE2 hv hri hln;go_wp2_with fail
     refine(HV.out).mono ?_;rintro e w4 ⟨rfl,hb4,hw4⟩;have hB4:=hBr.trans hw4.1;have hW4:=hWr.trans hw4;rw[List.append_assoc]at hb4;go_wp2_with fail
     go_roundw
     case rel=>exact⟨i+1,_,by omega,by go_num,hb4,hW4,hB4,by show _=_;rw[HE2.out];simp only[List.append_assoc]⟩
     case measure=>simp[intOf];omega
    ·have t7:decide ((i:Int)<(M:Int))=false:=by simp;omega
     have HF:=zh (encL_end (named:=false) (its:=its) (ns:=ns.drop i) (i:=i) (by rw[HM.out];omega));go_wp2_with fail
     go_end0;exact⟨rfl,by rw[hE.out,HF.out,List.append_nil];exact hbr,hWr⟩
  have k5:=k1;clear k1;by_cases k1:v.kind=6
  ·clear k3 k5;obtain⟨pn,p,cap,hg,x0,x1,x2,x3,x4,x5,h4,h5,h6,h7,h9⟩:=h.open
   rw[k1]at x0;rw[hW0]at hg;have hnm:=h6;obtain⟨pp,pc,rfl⟩:=h6.lenOf;have HKc:=zh (fun w' (hb:Below B W0 w')=>(show w'.cell? ⟨g,o,none⟩=some (.int .i64 6)∧w'.cell? ⟨g,o+4,none⟩=some (.slice pp v.names.length pc)∧w'.cell? ⟨g,o+5,none⟩=some (.slice p v.items.length cap) from⟨(hb.cell (p:=⟨g,o,none⟩) hg).trans x0,(hb.cell (p:=⟨g,o+4,none⟩) hg).trans x4,(hb.cell (p:=⟨g,o+5,none⟩) hg).trans x5⟩));rw[right6 k1,Bool.and_eq_true,Bool.and_eq_true,Bool.and_eq_true,decide_eq_true_eq]at hr;have hNM:=hr.1;have hall:=hr.2.2.2;have hn30:=rises_len hr.2.1;have HNames:=zh (fun w' (hb:Below B W0 w') i (hi:i<v.names.length)=>(show ∃ g' o',pp=some ⟨g',o',none⟩∧w'.cell? ⟨g',o'+i,none⟩=some (.string ⟨(v.names.getD i []).toArray⟩)∧(v.names.getD i []).length≤30 from by
    rcases hnm.2.2 with ⟨hz,_⟩|⟨g',o',cap',hv,hg',hc⟩
    ·rw[hz]at hi;simp at hi
    ·injection hv with hv
     refine⟨g',o',hv,(hb.cell (p:=⟨g',o'+i,none⟩) (by rw[←hW0];exact hg')).trans (hc i hi),hn30 _ ?_⟩;simp[List.getD,hi]))
   have HAll:=zh (fun i (hi:i<v.items.length)=>(show rightV (v.items.getD i noVT) far=true from rightL_mem hall _ (by simp[List.getD,hi])));have hpw:=pszL_ge v.items;have hps:psz v=pszL v.items+1:=by cases v;rw[psz];rfl
   have HEq:=enc6 k1;have H9:=zh h9;clear hnm hall hr h9 h6 h5 h4 h x0 x1 x2 x3 x4 x5 k1;generalize v.items=its at *;generalize v.names=ns at *;rw[HEq]at hlen ⊢
   generalize hM:its.length=M at *;generalize hN:ns.length=N at *;have hbd0:=hlen;simp only[List.length_cons,List.length_append]at hbd0;have HM:=zh hM;have HN:=zh hN;clear hM hN HEq;have HNM:=zh hNM;clear hNM;have HW1:=zh (fun w' (h':Bld 129 B b q w')=>(show Calls Tryz.prog 49 #[.pointer (some ⟨b,0,none⟩),.int .u8 6] w' fun e w''=>e=.returned .nilIface∧Bld 129 B b (q++[6]) w''∧Wrote B b w' w'' from h'.write bt_codec (by omega) 6));have HU:=zh (fun w' (h':Bld 129 B b (q++[6]) w')=>cuint_any M (by omega) B b (q++[6]) (by simp;omega) w' h');have hwM:IntKind.u64.wrap (M:Int)=(M:Int):=by rw[IntKind.wrap_u64];omega
   have wk:IntKind.u8.wrap 6=6:=by decide
   have hlr:q.length+((6:UInt8)::(uintS M++encL true ns its)).length≤8000000:=hlen;generalize hRest:(6:UInt8)::(uintS M++encL true ns its)=rest at *;have hstart:rest=([6]++uintS M)++encL true (ns.drop 0) (its.drop 0):=by rw[←hRest];rfl
   have HSt:=zh hstart;clear hRest hstart hlen;go_in;go_wp2_with fail
   go_region_held3 (fun w'=>w'.cell? ⟨g,o,none⟩=some (.int .i64 6)∧w'.cell? ⟨g,o+4,none⟩=some (.slice pp N pc)∧w'.cell? ⟨g,o+5,none⟩=some (.slice p M cap)) (first|exact HKc.out _ hB0.drew|go_keep|exact HKc.out _ (hB0.drew.trans hw1.1)) ((go_at_call 49;(with_reducible refine(HW1.out _ hbd.drew).mono ?_);rintro e w1 ⟨rfl,hb1,hw1⟩))
   clear wk;have hB1:=hB0.drew.trans hw1.1;have hW1:Wrote B b w w1:=(Wrote.refl B b w).drew.trans hw1;obtain⟨y0,y4,y5⟩:=HKc.out _ hB1;go_wp2_with fail
   refine(HU.out _ hb1).mono ?_;rintro e w2 ⟨rfl,hb2,hw2⟩;have hB2:=hB1.trans hw2.1;have hW2:=hW1.trans hw2;rw[List.append_assoc]at hb2;clear y0 y4 y5 hB1 hW1 hb1 hw1 hw2;obtain⟨y0,y4,y5⟩:=HKc.out _ hB2;go_wp2_with fail
   clear y0 y4 y5;go_loopw [33] (fun iv wr=>∃ (i:Nat) (r:List UInt8),i≤M∧iv=.int .i64 i∧Bld 129 B b (q++r) wr∧Wrote B b w wr∧Below B W0 wr∧Hid (rest=r++encL true (ns.drop i) (its.drop i))) (fun iv _=>M - (intOf iv).toNat)
   case atStart=>exact⟨0,_,by omega,rfl,hb2,hW2,hB2,HSt.out⟩
   case round =>
    clear hb2 hW2 hB2;obtain⟨i,r,hi,rfl,hbr,hWr,hBr,hE⟩:=hrel;obtain⟨y0,y4,y5⟩:=HKc.out _ hBr;by_cases hlt:i<M
    ·have t7:decide ((i:Int)<(M:Int))=true:=by simp;omega
     obtain⟨g',o',rfl,hg',hv⟩:=H9.out i hlt;have hri:=HAll.out i hlt;have hD:=encL_drop6 (its:=its) (ns:=ns) (i:=i) (by rw[HM.out];exact hlt) (by have:=HNM.out;rw[HN.out];omega);obtain⟨gn,on,rfl,hcn,hn30⟩:=HNames.out _ hBr i (by have:=HNM.out;omega);have hE2:=hE.out;rw[hD]at hE2;have hln:=congrArg List.length hE2;simp only[List.length_append]at hln;generalize its.getD i noVT=x at *;generalize ns.getD i []=nm at *;have HS:=zh (cstr_any nm (by omega) B b (q++r) (by simp;omega) wr hbr);have HV:=zh (fun w' (hb':Bld 129 B b (q++(r++strE nm)) w') (hB':Below B W0 w')=>ih.out x g' (o'+i*6) far W0 B b (q++(r++strE nm)) w' hv hW0 hB' hb' hri (by simp;omega));have HE2:=zh hE2;have b1:(0:Int)≤(i:Int):=by omega
     have b2:(i:Int)<(M:Int):=by omega
     clear hD hE2 hv hri hln;have b3:(i:Int)<(N:Int):=by have:=HNM.out;omega
     go_wp2_with fail
     refine(HS.out).mono ?_;rintro e w3 ⟨rfl,hb3,hw3⟩;have hB3:=hBr.trans hw3.1;have hW3:=hWr.trans hw3;rw[List.append_assoc]at hb3;clear y0 y4 y5 hcn;obtain⟨y0,y4,y5⟩:=HKc.out _ hB3;go_wp2_with fail
     refine(HV.out _ hb3 hB3).mono ?_;rintro e w4 ⟨rfl,hb4,hw4⟩;have hB4:=hB3.trans hw4.1;have hW4:=hW3.trans hw4;rw[List.append_assoc]at hb4;go_wp2_with fail
     go_roundw
     case rel=>exact⟨i+1,_,by omega,by go_num,hb4,hW4,hB4,by show _=_;rw[HE2.out];simp only[List.append_assoc]⟩
     case measure=>simp[intOf];omega
    ·have t7:decide ((i:Int)<(M:Int))=false:=by simp;omega
     have HF:=zh (encL_end (named:=true) (its:=its) (ns:=ns.drop i) (i:=i) (by rw[HM.out];omega));go_wp2_with fail
     go_end0;exact⟨rfl,by rw[hE.out,HF.out,List.append_nil];exact hbr,hWr⟩
  exact cvalue_leaf (d+1) v g o (far+1) B b q W0 w h hW0 hB0 hbd hr ⟨k3,k5,k1⟩ hlen
end
section
open Go.RowKit
/-- what codec.Value answers -/
def cvalT (v:VT):Value:=if rightB v=true then .tuple #[.string ⟨(encV v).toArray⟩,.int .i64 0] else .tuple #[.string ⟨#[]⟩,.int .i64 5]
theorem cValue_any (d:Nat) (v:VT) (cs:Array Value) (w:World) (h:ValAt w d v cs):Calls Tryz.prog 36 #[.agg cs] w (Gives (cvalT v) w):=by
 obtain⟨pn,p,cap,rfl⟩:=h.six;have hb:=h.box;have hB:Below w.heap.size w (w.alloc (.cells #[.int .i64 v.kind,.int .i64 v.num,.float .f64 v.flt,.string ⟨v.str.toArray⟩,pn,.slice p v.items.length cap] 28)):=(Below.refl _ _).alloc (Nat.le_refl _) _;generalize hw0:w.alloc (.cells #[.int .i64 v.kind,.int .i64 v.num,.float .f64 v.flt,.string ⟨v.str.toArray⟩,pn,.slice p v.items.length cap] 28)=w0 at *;have HR:=zh (vRight_any d v _ _ (h.kept hB));cases hr:rightB v with
 | false =>
  have HV:=zh (show cvalT v=.tuple #[.string ⟨#[]⟩,.int .i64 5] from by rw[cvalT,hr];rfl);rw[hr]at HR;clear hr h hb;subst hw0;go_in;go_wp2_with fail
  refine(HR.out).mono ?_;rintro e w2 ⟨rfl,hb2⟩;go_wp2_with fail
  go_ret2;exact⟨ret_val (by rw[HV.out];rfl),hB.trans (hb2.mono hB.size)⟩
 | true =>
  have HV:=zh (show cvalT v=.tuple #[.string ⟨(encV v).toArray⟩,.int .i64 0] from by rw[cvalT,hr];rfl);have hlen:=rightB_len hr;have hrv:rightV v 12=true:=by
   have hR:=rightB.eq_def v;rw[hr]at hR;simp only[Bool.true_eq,Bool.and_eq_true]at hR;exact hR.2
  have HW:=zh (fun w' (hb':Below w0.heap.size w0 w')=>cvalue_any d v w.heap.size 0 12 w' w'.heap.size w'.heap.size [] (w'.alloc (.cells #[.pointer none,.slice none 0 0] 129)) (hb.kept hb') rfl ((Below.refl _ _).alloc (Nat.le_refl _) _) (Bld.fresh 129 w') hrv (by simp;omega));rw[hr]at HR;have HT:=zh (fun(B b:Nat) (o:List UInt8) (w:World) (h:Bld 129 B b o w)=>h.text bt_codec);clear hr h hb hrv hlen;subst hw0;go_in;go_wp2_with fail
  refine(HR.out).mono ?_;rintro e w2 ⟨rfl,hb2⟩;go_wp2_with fail
  refine(HW.out _ hb2).mono ?_;rintro e w3 ⟨rfl,hb3,hw3⟩;go_wp2_with fail
  refine(HT.out _ _ _ _ hb3).mono ?_;rintro e w4 ⟨rfl,hb4⟩;go_wp2_with fail
  go_ret2;have hC:Below _ _ w4:=(((Below.refl _ _).alloc (Nat.le_refl _) (.cells #[.pointer none,.slice none 0 0] 129)).trans hw3.1).trans hb4;exact⟨ret_val (by rw[HV.out];rfl),hB.trans ((hb2.trans (hC.mono hb2.size)).mono hB.size)⟩
end
end Go.Proofs.YtepaaochgljcdaaGreatDoor
